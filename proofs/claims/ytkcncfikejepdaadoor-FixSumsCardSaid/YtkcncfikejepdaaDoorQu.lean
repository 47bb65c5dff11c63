/- The walk of the reference's quo. Conditions: digits below 2^32; a divisor below 2^64. -/
import Derived.Test.YtkcncfikejepdaaDoorRsD
import Derived.Test.YtkcncfikejepdaaDoorFixV
import Derived.Deep.RegionWith
import Derived.WalkKit
import Derived.Deep.QuietTactic
namespace Go.Proofs.YtkcncfikejepdaaDoor.Ext
open Go.RowKit Go.Proofs.YtkcncfikejepdaaDoorW.PrintWords Go.Proofs.YtkcncfikejepdaaDoorW.PrintLast Go.Proofs.YtkcncfikejepdaaDoorW.PrintMore
attribute [local go_sem] max2_int min2_int max_two min_two max_three min_three max_four min_four cs6
set_option linter.unusedVariables false
set_option linter.unusedSimpArgs false
/-- the bit ahead of digit m -/
def twC (a : List Int) (bit : Int) : Nat → Int
  | 0 => bit
  | m + 1 => (a.getD m 0 * 2 + twC a bit m) / 4294967296
/-- the digits below m doubled -/
def twR (a : List Int) (bit : Int) : Nat → List Int
  | 0 => a
  | m + 1 => (twR a bit m).set m ((a.getD m 0 * 2 + twC a bit m) % 4294967296)
theorem twR_len (a : List Int) (bit : Int) (hl : a.length = 6) : ∀ m, (twR a bit m).length = 6
  | 0 => hl
  | m + 1 => by rw [twR, List.length_set]; exact twR_len a bit hl m
theorem twC_le (a : List Int) (bit : Int) (ha : dig6 a) (hb : 0 ≤ bit ∧ bit ≤ 1) : ∀ m, 0 ≤ twC a bit m ∧ twC a bit m ≤ 1
  | 0 => hb
  | m + 1 => by
    have h1 := twC_le a bit ha hb m
    have h2 := ha m
    rw [twC]
    omega
theorem twR_at (a : List Int) (bit : Int) (hl : a.length = 6) : ∀ m i, m ≤ 6 → (twR a bit m).getD i 0 = if i < m then (a.getD i 0 * 2 + twC a bit i) % 4294967296 else a.getD i 0
  | 0, i, _ => by rw [if_neg (by omega)]; rfl
  | m + 1, i, hm => by
    rw [twR, set_getD _ _ _ _ (by rw [twR_len a bit hl m]; omega), twR_at a bit hl m i (by omega)]
    by_cases e : i = m
    · subst e; rw [if_pos rfl, if_pos (by omega)]
    · rw [if_neg e]
      by_cases c : i < m
      · rw [if_pos c, if_pos (by omega)]
      · rw [if_neg c, if_neg (by omega)]
theorem twR_dig (a : List Int) (bit : Int) (ha : dig6 a) : ∀ m, dig6 (twR a bit m)
  | 0 => ha
  | m + 1 => set_dig _ _ _ (twR_dig a bit ha m) (by omega)
theorem val_tw (a : List Int) (bit : Int) (ha : dig6 a) (hl : a.length = 6) (hb : 0 ≤ bit ∧ bit ≤ 1) (h : val6 a * 2 + bit < 6277101735386680763835789423207666416102355444464034512896) : val6 (twR a bit 6) = val6 a * 2 + bit := by
  have t0 := twR_at a bit hl 6 0 (by decide); have t1 := twR_at a bit hl 6 1 (by decide); have t2 := twR_at a bit hl 6 2 (by decide)
  have t3 := twR_at a bit hl 6 3 (by decide); have t4 := twR_at a bit hl 6 4 (by decide); have t5 := twR_at a bit hl 6 5 (by decide)
  rw [if_pos (by decide)] at t0 t1 t2 t3 t4 t5
  have c0 : twC a bit 0 = bit := rfl
  have c1 : twC a bit 1 = (a.getD 0 0 * 2 + twC a bit 0) / 4294967296 := rfl
  have c2 : twC a bit 2 = (a.getD 1 0 * 2 + twC a bit 1) / 4294967296 := rfl
  have c3 : twC a bit 3 = (a.getD 2 0 * 2 + twC a bit 2) / 4294967296 := rfl
  have c4 : twC a bit 4 = (a.getD 3 0 * 2 + twC a bit 3) / 4294967296 := rfl
  have c5 : twC a bit 5 = (a.getD 4 0 * 2 + twC a bit 4) / 4294967296 := rfl
  have d0 := ha 0; have d1 := ha 1; have d2 := ha 2; have d3 := ha 3; have d4 := ha 4; have d5 := ha 5
  unfold val6 at h ⊢
  rw [t0, t1, t2, t3, t4, t5]
  omega
set_option maxHeartbeats 8000000 in
set_option maxRecDepth 100000 in
theorem twice_calls (a : List Int) (bit : Int) (ha : dig6 a) (hl : a.length = 6) (hb : 0 ≤ bit ∧ bit ≤ 1) (w : World) :
    Calls Tryd.prog 62 #[.agg (cs6 a), .int .u64 bit] w fun e w' => e = .returned (.agg (cs6 (twR a bit 6))) ∧ Below w.heap.size w w' := by
  have HB := Aside0.mk (Below.refl w.heap.size w)
  have hu43 := Tryd.underlying43
  have HLA := Aside0.mk hl
  clear hl
  obtain ⟨R, hR⟩ : ∃ R, twR a bit 6 = R := ⟨_, rfl⟩
  rw [hR]
  have HRR := Aside0.mk hR
  clear hR
  go_enter Tryd.func62, Tryd.ntmps62
  go_upto_block 0 with (first | ((with_reducible refine gate_dst (N := 2) rfl ?_); refine box_event ?hg (N := 2) ?hd (cs := cs6 a) (t := 43) ?hr ?_; (case hd => rfl); (case hg => rfl); (case hr => first | (go_simp; done) | (go_simp; rfl)); intro gA hg wA hbox hb; have n0_ := Aside0.mk (below_step (by repeat (first | (with_reducible first | exact HB.out | apply below_alloc | apply below_drew | apply pw_below_drewN | apply below_drew1) | exact HB.out)) hb); have n1_ := Aside0.mk hbox; have GEA := Aside0.mk ((by rw [hg]; exact (below_size (by repeat (first | (with_reducible first | exact HB.out | apply below_alloc | apply below_drew | apply pw_below_drewN | apply below_drew1) | exact HB.out))) : w.heap.size ≤ gA)); clear HB; have HB := n0_; have BKA := n1_; clear n0_ n1_; clear hb hbox hg) | ((with_reducible refine gate_dst (N := 4) rfl ?_); refine box_event ?hg (N := 4) ?hd (cs := cs6 z6) (t := 43) ?hr ?_; (case hd => rfl); (case hg => rfl); (case hr => first | (go_simp; done) | (go_simp; rfl)); intro gZ hg wZ hbox hb; have n0_ := Aside0.mk (below_step (by repeat (first | (with_reducible first | exact HB.out | apply below_alloc | apply below_drew | apply pw_below_drewN | apply below_drew1) | exact HB.out)) hb); have n1_ := Aside0.mk hbox; have GEZ := Aside0.mk ((by rw [hg]; exact (below_size (by repeat (first | (with_reducible first | exact HB.out | apply below_alloc | apply below_drew | apply pw_below_drewN | apply below_drew1) | exact HB.out))) : w.heap.size ≤ gZ)); have m0_ := Aside0.mk (blk_below BKA.out hb); have NEAZ := Aside0.mk (show gA ≠ gZ by have := blk_lt BKA.out; omega); clear HB BKA; have HB := n0_; have BKZ := n1_; have BKA := m0_; clear n0_ n1_ m0_; clear hb hbox hg))
  (try simp only [Act.put, List.setIfInBounds_toArray, List.set_cons_zero, List.set_cons_succ])
  go_wp2
  go_loopg [5, 6] 10 (fun kq v5 v6 w' => ∃ m : Nat, v5 = .int .u64 (twC a bit m) ∧ v6 = .int .i64 (m : Int) ∧ m ≤ 6 ∧ m + kq = 10 ∧ Aside0 (w'.heap[gA]? = some (.cells (cs6 (twR a bit m)) 43 (0, 0))) ∧ Aside0 (w'.heap[gZ]? = some (.cells (cs6 z6) 43 (0, 0))) ∧ Aside0 (Below w.heap.size w w'))
  case atStart => exact ⟨0, rfl, rfl, by omega, rfl, BKA, BKZ, HB⟩
  case round =>
    clear BKA BKZ HB
    obtain ⟨m, rfl, rfl, hm, hk, BKA, BKZ, HB⟩ := hrel
    by_cases h6 : m < 6
    · obtain ⟨c, hc⟩ : ∃ c, twC a bit m = c := ⟨_, rfl⟩
      have hc1 := twC_le a bit ha hb m
      have hcn : twC a bit (m + 1) = (a.getD m 0 * 2 + twC a bit m) / 4294967296 := rfl
      have hrn : twR a bit (m + 1) = (twR a bit m).set m ((a.getD m 0 * 2 + twC a bit m) % 4294967296) := rfl
      have hlr := twR_len a bit HLA.out m
      have hat := twR_at a bit HLA.out m m (by omega)
      rw [if_neg (by omega)] at hat
      obtain ⟨Rm, hRm⟩ : ∃ R, twR a bit m = R := ⟨_, rfl⟩
      rw [hc] at hc1 hcn hrn
      rw [hRm] at hrn hlr hat BKA
      rw [hc]
      have hA := ha m
      have k1 : decide ((m : Int) < 6) = true := decide_eq_true (by omega)
      have k2 : (0 ≤ (m : Int)) = True := eq_true (by omega)
      have k3 : ((m : Int) < 6) = True := eq_true (by omega)
      have k4 : (m < 6) = True := eq_true h6
      have cA := (blk_cell BKA.out m).trans (cs6_at Rm m h6)
      have fA := blk_frozen BKA.out m
      rw [hat] at cA
      obtain ⟨x, hx⟩ : ∃ x, a.getD m 0 = x := ⟨_, rfl⟩
      rw [hx] at cA hA hcn hrn
      have f0 : IntKind.u64.wrap (x * 2) = x * 2 := wraps_u64 _ (by omega) (by omega)
      have f2 : IntKind.u64.wrap (x * 2 + c) = x * 2 + c := wraps_u64 _ (by omega) (by omega)
      have f3 : (x * 2 + c).tmod 4294967296 = (x * 2 + c) % 4294967296 := Int.tmod_eq_emod_of_nonneg (by omega)
      have f4 : IntKind.u64.wrap ((x * 2 + c) % 4294967296) = (x * 2 + c) % 4294967296 := wraps_u64 _ (by omega) (by omega)
      have BN : Aside0 ((wr.setCell ⟨gA, m, none⟩ (.int .u64 ((x * 2 + c) % 4294967296))).heap[gA]? = some (.cells (cs6 (twR a bit (m + 1))) 43 (0, 0))) := ⟨by rw [hrn]; exact blk_put BKA.out m _ (cs6_set Rm m _ h6 hlr)⟩
      have HCN := Aside0.mk hcn
      clear hx hc hRm hat hlr hrn hcn
      obtain ⟨k5, rfl⟩ : ∃ k5, gk = k5 + 1 := ⟨gk - 1, by omega⟩
      go_wp2
      go_roundg k5
      case measure => omega
      case rel => exact ⟨m + 1, by rw [HCN.out], by first | rfl | (simp; done), by omega, by omega, BN, ⟨blk_far BKZ.out (fun h => NEAZ.out h.symm) _⟩, ⟨below_set HB.out GEA.out⟩⟩
    · obtain rfl : m = 6 := by omega
      rw [HRR.out] at BKA
      have r0 : wr.cell? ⟨gA, 0, none⟩ = some (.int .u64 (R.getD 0 0)) := (blk_cell BKA.out 0).trans rfl
      have r1 : wr.cell? ⟨gA, 1, none⟩ = some (.int .u64 (R.getD 1 0)) := (blk_cell BKA.out 1).trans rfl
      have r2 : wr.cell? ⟨gA, 2, none⟩ = some (.int .u64 (R.getD 2 0)) := (blk_cell BKA.out 2).trans rfl
      have r3 : wr.cell? ⟨gA, 3, none⟩ = some (.int .u64 (R.getD 3 0)) := (blk_cell BKA.out 3).trans rfl
      have r4 : wr.cell? ⟨gA, 4, none⟩ = some (.int .u64 (R.getD 4 0)) := (blk_cell BKA.out 4).trans rfl
      have r5 : wr.cell? ⟨gA, 5, none⟩ = some (.int .u64 (R.getD 5 0)) := (blk_cell BKA.out 5).trans rfl
      have s0 : wr.cell? ⟨gZ, 0, none⟩ = some (.int .u64 0) := (blk_cell BKZ.out 0).trans rfl
      have s1 : wr.cell? ⟨gZ, 1, none⟩ = some (.int .u64 0) := (blk_cell BKZ.out 1).trans rfl
      have s2 : wr.cell? ⟨gZ, 2, none⟩ = some (.int .u64 0) := (blk_cell BKZ.out 2).trans rfl
      have s3 : wr.cell? ⟨gZ, 3, none⟩ = some (.int .u64 0) := (blk_cell BKZ.out 3).trans rfl
      have s4 : wr.cell? ⟨gZ, 4, none⟩ = some (.int .u64 0) := (blk_cell BKZ.out 4).trans rfl
      have s5 : wr.cell? ⟨gZ, 5, none⟩ = some (.int .u64 0) := (blk_cell BKZ.out 5).trans rfl
      have u0_ := blk_frozen BKZ.out 0
      have u1_ := blk_frozen BKZ.out 1
      have u2_ := blk_frozen BKZ.out 2
      have u3_ := blk_frozen BKZ.out 3
      have u4_ := blk_frozen BKZ.out 4
      have u5_ := blk_frozen BKZ.out 5
      go_wp2
      generalize hW : World.setCell _ ⟨gZ, 5, none⟩ _ = wS
      have n0_ : Aside0 (wS.heap[gZ]? = some (.cells (cs6 R) 43 (0, 0))) := ⟨by rw [← hW]; exact put6 BKZ.out R⟩
      have n3_ : Aside0 (Below w.heap.size w wS) := ⟨by rw [← hW]; exact bel6 HB.out GEZ.out _ _ _ _ _ _⟩
      refine bodyPost_ret (results_cell_row rfl _ _ gZ 43 (cs6 R) (0, 0) _ rfl n0_.out Tryd.underlying43 rfl (by kernel_rfl)) rfl ?_
      exact ⟨rfl, n3_.out⟩
end Go.Proofs.YtkcncfikejepdaaDoor.Ext
namespace Go.Proofs.YtkcncfikejepdaaDoor.Ext
open Go.RowKit Go.Proofs.YtkcncfikejepdaaDoorW.PrintWords Go.Proofs.YtkcncfikejepdaaDoorW.PrintLast Go.Proofs.YtkcncfikejepdaaDoorW.PrintMore
attribute [local go_sem] max2_int min2_int max_two min_two max_three min_three max_four min_four cs6
set_option linter.unusedVariables false
set_option linter.unusedSimpArgs false
def bitAt (a : List Int) (i : Nat) : Int := (a.getD (i / 32) 0 / 2 ^ (i % 32)) % 2
def qStep (a d : List Int) (s : List Int × List Int) (i : Nat) : List Int × List Int :=
  if lessL (twR s.2 (bitAt a i) 6) d 6 = true then (twR s.1 0 6, twR s.2 (bitAt a i) 6) else ((twR s.1 0 6).set 0 ((twR s.1 0 6).getD 0 0 + 1), minusR (twR s.2 (bitAt a i) 6) d 6)
/-- the highest k bits divided -/
def qS (a d : List Int) : Nat → List Int × List Int
  | 0 => (z6, z6)
  | k + 1 => qStep a d (qS a d k) (191 - k)
def six_ (q : List Int) : Prop := dig6 q ∧ q.length = 6
theorem bit_le (a : List Int) (i : Nat) : 0 ≤ bitAt a i ∧ bitAt a i ≤ 1 := by unfold bitAt; omega
theorem tw_six (q : List Int) (b : Int) (h : six_ q) : six_ (twR q b 6) := ⟨twR_dig q b h.1 6, twR_len q b h.2 6⟩
theorem tw_even (q : List Int) (h : six_ q) : (twR q 0 6).getD 0 0 + 1 < 4294967296 := by
  have := twR_at q 0 h.2 6 0 (by decide)
  rw [if_pos (by decide)] at this
  have c0 : twC q 0 0 = 0 := rfl
  rw [this, c0]
  omega
theorem inc_six (q : List Int) (h : six_ q) : six_ ((twR q 0 6).set 0 ((twR q 0 6).getD 0 0 + 1)) := by
  have e := tw_even q h
  have d := (tw_six q 0 h).1 0
  exact ⟨set_dig _ _ _ (tw_six q 0 h).1 (by omega), by rw [List.length_set]; exact (tw_six q 0 h).2⟩
theorem qS_six (a d : List Int) : ∀ k, six_ (qS a d k).1 ∧ six_ (qS a d k).2
  | 0 => ⟨⟨z_dig, rfl⟩, ⟨z_dig, rfl⟩⟩
  | k + 1 => by
    obtain ⟨h1, h2⟩ := qS_six a d k
    show six_ (qStep a d (qS a d k) (191 - k)).1 ∧ six_ (qStep a d (qS a d k) (191 - k)).2
    unfold qStep
    split
    · exact ⟨tw_six _ _ h1, tw_six _ _ h2⟩
    · exact ⟨inc_six _ h1, ⟨minus_dig _ _ 6, minusR_len _ _ 6⟩⟩
set_option maxHeartbeats 16000000 in
set_option maxRecDepth 100000 in
theorem quo_calls (a : List Int) (n : Int) (ha : dig6 a) (hl : a.length = 6) (h0 : 0 ≤ n) (h1 : n < 18446744073709551616) (w : World) :
    Calls Tryd.prog 45 #[.agg (cs6 a), .int .u64 n] w fun e w' => e = .returned (.agg (cs6 (qS a (oneL n.toNat) 192).1)) ∧ Below w.heap.size w w' := by
  have hDd := one_dig n.toNat (by omega)
  have hone : ∀ W : World, Calls Tryd.prog 27 #[.int .u64 n] W fun e w' => e = .returned (.agg (cs6 (oneL n.toNat))) ∧ Below W.heap.size W w' := fun W => by
    have c := one_calls n W h0 h1
    have e : oneL n.toNat = [n % 4294967296, n / 4294967296, 0, 0, 0, 0] := by unfold oneL; rw [Int.toNat_of_nonneg h0]
    rw [e]; exact c
  obtain ⟨D, hD⟩ : ∃ D, oneL n.toNat = D := ⟨_, rfl⟩
  rw [hD] at hone hDd ⊢
  clear hD
  obtain ⟨res, hres⟩ : ∃ r, (qS a D 192).1 = r := ⟨_, rfl⟩
  rw [hres]
  have HRES := Aside0.mk hres
  have HLA := Aside0.mk hl
  clear hl hres
  have HB := Aside0.mk (Below.refl w.heap.size w)
  have hu43 := Tryd.underlying43
  go_enter Tryd.func45, Tryd.ntmps45
  go_upto_block 0 with (first | ((with_reducible refine gate_dst (N := 2) rfl ?_); refine box_event ?hg (N := 2) ?hd (cs := cs6 a) (t := 43) ?hr ?_; (case hd => rfl); (case hg => rfl); (case hr => first | (go_simp; done) | (go_simp; rfl)); intro gA hg wA hbox hb; have n0_ := Aside0.mk (below_step (by repeat (first | (with_reducible first | exact HB.out | apply below_alloc | apply below_drew | apply pw_below_drewN | apply below_drew1) | exact HB.out)) hb); have n1_ := Aside0.mk hbox; have GEA := Aside0.mk ((by rw [hg]; exact (below_size (by repeat (first | (with_reducible first | exact HB.out | apply below_alloc | apply below_drew | apply pw_below_drewN | apply below_drew1) | exact HB.out))) : w.heap.size ≤ gA)); clear HB; have HB := n0_; have BKA := n1_; clear n0_ n1_; clear hb hbox hg) | ((with_reducible refine gate_dst (N := 4) rfl ?_); refine box_event ?hg (N := 4) ?hd (cs := cs6 z6) (t := 43) ?hr ?_; (case hd => rfl); (case hg => rfl); (case hr => first | (go_simp; done) | (go_simp; rfl)); intro gZ hg wZ hbox hb; have n0_ := Aside0.mk (below_step (by repeat (first | (with_reducible first | exact HB.out | apply below_alloc | apply below_drew | apply pw_below_drewN | apply below_drew1) | exact HB.out)) hb); have n1_ := Aside0.mk hbox; have GEZ := Aside0.mk ((by rw [hg]; exact (below_size (by repeat (first | (with_reducible first | exact HB.out | apply below_alloc | apply below_drew | apply pw_below_drewN | apply below_drew1) | exact HB.out))) : w.heap.size ≤ gZ)); have m0_ := Aside0.mk (blk_below BKA.out hb); have NEAZ := Aside0.mk (show gA ≠ gZ by have := blk_lt BKA.out; omega); clear HB BKA; have HB := n0_; have BKZ := n1_; have BKA := m0_; clear n0_ n1_ m0_; clear hb hbox hg) | ((with_reducible refine gate_dst (N := 5) rfl ?_); refine box_event ?hg (N := 5) ?hd (cs := cs6 z6) (t := 43) ?hr ?_; (case hd => rfl); (case hg => rfl); (case hr => first | (go_simp; done) | (go_simp; rfl)); intro gQ hg wQ hbox hb; have n0_ := Aside0.mk (below_step (by repeat (first | (with_reducible first | exact HB.out | apply below_alloc | apply below_drew | apply pw_below_drewN | apply below_drew1) | exact HB.out)) hb); have n1_ := Aside0.mk hbox; have GEQ := Aside0.mk ((by rw [hg]; exact (below_size (by repeat (first | (with_reducible first | exact HB.out | apply below_alloc | apply below_drew | apply pw_below_drewN | apply below_drew1) | exact HB.out))) : w.heap.size ≤ gQ)); have m0_ := Aside0.mk (blk_below BKA.out hb); have NEAQ := Aside0.mk (show gA ≠ gQ by have := blk_lt BKA.out; omega); have m1_ := Aside0.mk (blk_below BKZ.out hb); have NEZQ := Aside0.mk (show gZ ≠ gQ by have := blk_lt BKZ.out; omega); clear HB BKA BKZ; have HB := n0_; have BKQ := n1_; have BKA := m0_; have BKZ := m1_; clear n0_ n1_ m0_ m1_; clear hb hbox hg) | ((with_reducible refine gate_dst (N := 6) rfl ?_); refine box_event ?hg (N := 6) ?hd (cs := cs6 z6) (t := 43) ?hr ?_; (case hd => rfl); (case hg => rfl); (case hr => first | (go_simp; done) | (go_simp; rfl)); intro gR hg wR hbox hb; have n0_ := Aside0.mk (below_step (by repeat (first | (with_reducible first | exact HB.out | apply below_alloc | apply below_drew | apply pw_below_drewN | apply below_drew1) | exact HB.out)) hb); have n1_ := Aside0.mk hbox; have GER := Aside0.mk ((by rw [hg]; exact (below_size (by repeat (first | (with_reducible first | exact HB.out | apply below_alloc | apply below_drew | apply pw_below_drewN | apply below_drew1) | exact HB.out))) : w.heap.size ≤ gR)); have m0_ := Aside0.mk (blk_below BKA.out hb); have NEAR := Aside0.mk (show gA ≠ gR by have := blk_lt BKA.out; omega); have m1_ := Aside0.mk (blk_below BKZ.out hb); have NEZR := Aside0.mk (show gZ ≠ gR by have := blk_lt BKZ.out; omega); have m2_ := Aside0.mk (blk_below BKQ.out hb); have NEQR := Aside0.mk (show gQ ≠ gR by have := blk_lt BKQ.out; omega); clear HB BKA BKZ BKQ; have HB := n0_; have BKR := n1_; have BKA := m0_; have BKZ := m1_; have BKQ := m2_; clear n0_ n1_ m0_ m1_ m2_; clear hb hbox hg) | ((with_reducible refine gate_dst (N := 7) rfl ?_); refine box_event ?hg (N := 7) ?hd (cs := cs6 z6) (t := 43) ?hr ?_; (case hd => rfl); (case hg => rfl); (case hr => first | (go_simp; done) | (go_simp; rfl)); intro gD hg wD hbox hb; have n0_ := Aside0.mk (below_step (by repeat (first | (with_reducible first | exact HB.out | apply below_alloc | apply below_drew | apply pw_below_drewN | apply below_drew1) | exact HB.out)) hb); have n1_ := Aside0.mk hbox; have GED := Aside0.mk ((by rw [hg]; exact (below_size (by repeat (first | (with_reducible first | exact HB.out | apply below_alloc | apply below_drew | apply pw_below_drewN | apply below_drew1) | exact HB.out))) : w.heap.size ≤ gD)); have m0_ := Aside0.mk (blk_below BKA.out hb); have NEAD := Aside0.mk (show gA ≠ gD by have := blk_lt BKA.out; omega); have m1_ := Aside0.mk (blk_below BKZ.out hb); have NEZD := Aside0.mk (show gZ ≠ gD by have := blk_lt BKZ.out; omega); have m2_ := Aside0.mk (blk_below BKQ.out hb); have NEQD := Aside0.mk (show gQ ≠ gD by have := blk_lt BKQ.out; omega); have m3_ := Aside0.mk (blk_below BKR.out hb); have NERD := Aside0.mk (show gR ≠ gD by have := blk_lt BKR.out; omega); clear HB BKA BKZ BKQ BKR; have HB := n0_; have BKD := n1_; have BKA := m0_; have BKZ := m1_; have BKQ := m2_; have BKR := m3_; clear n0_ n1_ m0_ m1_ m2_ m3_; clear hb hbox hg; have y0 : wD.cell? ⟨gD, 0, none⟩ = some (.int .u64 0) := (blk_cell BKD.out 0).trans rfl; have y1 : wD.cell? ⟨gD, 1, none⟩ = some (.int .u64 0) := (blk_cell BKD.out 1).trans rfl; have y2 : wD.cell? ⟨gD, 2, none⟩ = some (.int .u64 0) := (blk_cell BKD.out 2).trans rfl; have y3 : wD.cell? ⟨gD, 3, none⟩ = some (.int .u64 0) := (blk_cell BKD.out 3).trans rfl; have y4 : wD.cell? ⟨gD, 4, none⟩ = some (.int .u64 0) := (blk_cell BKD.out 4).trans rfl; have y5 : wD.cell? ⟨gD, 5, none⟩ = some (.int .u64 0) := (blk_cell BKD.out 5).trans rfl; have yf0 := blk_frozen BKD.out 0; have yf1 := blk_frozen BKD.out 1; have yf2 := blk_frozen BKD.out 2; have yf3 := blk_frozen BKD.out 3; have yf4 := blk_frozen BKD.out 4; have yf5 := blk_frozen BKD.out 5) | ((with_reducible refine gate_callee (f := 27) rfl ?_); refine goesL_ (some 10) rfl rfl Tryd.func27 (by kernel_rfl) rfl #[.int .u64 n] rfl (by (try simp only [List.map_toArray, List.map_cons, List.map_nil]); first | done | rfl) ?_; (refine (hone _).mono ?_); rintro e w1 ⟨rfl, hb⟩; refine ⟨_, rfl, ?_⟩; have m0_ := Aside0.mk (blk_below (by (repeat (first | exact BKA.out | refine blk_drewN ?_ _ | refine blk_drew ?_ | refine blk_alloc ?_ _))) hb); have m1_ := Aside0.mk (blk_below (by (repeat (first | exact BKZ.out | refine blk_drewN ?_ _ | refine blk_drew ?_ | refine blk_alloc ?_ _))) hb); have m2_ := Aside0.mk (blk_below (by (repeat (first | exact BKQ.out | refine blk_drewN ?_ _ | refine blk_drew ?_ | refine blk_alloc ?_ _))) hb); have m3_ := Aside0.mk (blk_below (by (repeat (first | exact BKR.out | refine blk_drewN ?_ _ | refine blk_drew ?_ | refine blk_alloc ?_ _))) hb); have n0_ := Aside0.mk (below_step (by repeat (first | (with_reducible first | exact HB.out | apply below_alloc | apply below_drew | apply pw_below_drewN | apply below_drew1) | exact HB.out)) hb); clear HB BKA BKZ BKQ BKR; have HB := n0_; have BKA := m0_; have BKZ := m1_; have BKQ := m2_; have BKR := m3_; clear n0_ m0_ m1_ m2_ m3_; clear hb))
  (try simp only [Act.put, List.setIfInBounds_toArray, List.set_cons_zero, List.set_cons_succ])
  generalize hW : World.setCell _ ⟨gD, 5, none⟩ _ = wS
  have nA_ : Aside0 (wS.heap[gA]? = some (.cells (cs6 a) 43 (0, 0))) := ⟨by rw [← hW]; exact far6 BKA.out NEAD.out _ _ _ _ _ _⟩
  have nZ_ : Aside0 (wS.heap[gZ]? = some (.cells (cs6 z6) 43 (0, 0))) := ⟨by rw [← hW]; exact far6 BKZ.out NEZD.out _ _ _ _ _ _⟩
  have nQ_ : Aside0 (wS.heap[gQ]? = some (.cells (cs6 z6) 43 (0, 0))) := ⟨by rw [← hW]; exact far6 BKQ.out NEQD.out _ _ _ _ _ _⟩
  have nR_ : Aside0 (wS.heap[gR]? = some (.cells (cs6 z6) 43 (0, 0))) := ⟨by rw [← hW]; exact far6 BKR.out NERD.out _ _ _ _ _ _⟩
  have nD_ : Aside0 (wS.heap[gD]? = some (.cells (cs6 D) 43 (0, 0))) := ⟨by rw [← hW]; exact put6 BKD.out D⟩
  have nB_ : Aside0 (Below w.heap.size w wS) := ⟨by rw [← hW]; exact bel6 HB.out GED.out _ _ _ _ _ _⟩
  clear BKA BKZ BKQ BKR BKD HB hW y0 y1 y2 y3 y4 y5 yf0 yf1 yf2 yf3 yf4 yf5
  have BKA := nA_
  have BKZ := nZ_
  have BKQ := nQ_
  have BKR := nR_
  have BKD := nD_
  have HB := nB_
  clear nA_ nZ_ nQ_ nR_ nD_ nB_
  go_wp2
  go_loopg [8] 400 (fun kq v8 w' => ∃ (j : Nat) (q r : List Int), v8 = .int .i64 ((j : Int) - 1) ∧ j ≤ 192 ∧ j < kq ∧ Aside0 (qS a D (192 - j) = (q, r)) ∧ Aside0 (w'.heap[gA]? = some (.cells (cs6 a) 43 (0, 0))) ∧ Aside0 (w'.heap[gZ]? = some (.cells (cs6 z6) 43 (0, 0))) ∧ Aside0 (w'.heap[gQ]? = some (.cells (cs6 q) 43 (0, 0))) ∧ Aside0 (w'.heap[gR]? = some (.cells (cs6 r) 43 (0, 0))) ∧ Aside0 (w'.heap[gD]? = some (.cells (cs6 D) 43 (0, 0))) ∧ Aside0 (Below w.heap.size w w'))
  case atStart => exact ⟨192, z6, z6, rfl, Nat.le_refl _, by omega, ⟨rfl⟩, BKA, BKZ, BKQ, BKR, BKD, HB⟩
  case round =>
    clear BKA BKZ BKQ BKR BKD HB
    obtain ⟨j, q, r, rfl, hj, hk, HS, BKA, BKZ, BKQ, BKR, BKD, HB⟩ := hrel
    have h6 := qS_six a D (192 - j)
    rw [HS.out] at h6
    have H6 := Aside0.mk h6
    clear h6
    cases j with
    | succ j =>
      have e0 : (((j + 1 : Nat) : Int) - 1) = (j : Int) := by omega
      rw [e0]
      obtain ⟨k2, rfl⟩ : ∃ k2, gk = k2 + 1 := ⟨gk - 1, by omega⟩
      have k1 : decide (0 ≤ (j : Int)) = true := decide_eq_true (by omega)
      have k3 : IntKind.i64.wrap ((j : Int) - 1) = (j : Int) - 1 := by rw [IntKind.wrap_i64]; omega
      obtain ⟨m, hm⟩ : ∃ m, j / 32 = m := ⟨_, rfl⟩
      obtain ⟨sh, hsh⟩ : ∃ s, j % 32 = s := ⟨_, rfl⟩
      have k4 : (j : Int).tdiv 32 = (m : Int) := by rw [Int.tdiv_eq_ediv_of_nonneg (by omega)]; omega
      have k5 : (j : Int).tmod 32 = (sh : Int) := by rw [Int.tmod_eq_emod_of_nonneg (by omega)]; omega
      have k6 : IntKind.i64.wrap (m : Int) = (m : Int) := by rw [IntKind.wrap_i64]; omega
      have k7 : IntKind.i64.wrap (sh : Int) = (sh : Int) := by rw [IntKind.wrap_i64]; omega
      have i0 : m < 6 := by omega
      have i1 : (0 ≤ (m : Int)) = True := eq_true (by omega)
      have i2 : ((m : Int) < 6) = True := eq_true (by omega)
      have i3 : (m < 6) = True := eq_true i0
      have i4 : (0 ≤ (sh : Int)) = True := eq_true (by omega)
      have i5 : decide ((sh : Int) < 0) = false := decide_eq_false (by omega)
      have i6 : sh < 32 := by omega
      have hnext : Aside0 (qS a D (192 - j) = qStep a D (q, r) j) := ⟨by rw [show 192 - j = (192 - (j + 1)) + 1 by omega]; show qStep a D (qS a D (192 - (j + 1))) (191 - (192 - (j + 1))) = _; rw [HS.out, show 191 - (192 - (j + 1)) = j by omega]⟩
      have u0 : wr.cell? ⟨gR, 0, none⟩ = some (.int .u64 (List.getD r 0 0)) := (blk_cell BKR.out 0).trans rfl
      have u1 : wr.cell? ⟨gR, 1, none⟩ = some (.int .u64 (List.getD r 1 0)) := (blk_cell BKR.out 1).trans rfl
      have u2 : wr.cell? ⟨gR, 2, none⟩ = some (.int .u64 (List.getD r 2 0)) := (blk_cell BKR.out 2).trans rfl
      have u3 : wr.cell? ⟨gR, 3, none⟩ = some (.int .u64 (List.getD r 3 0)) := (blk_cell BKR.out 3).trans rfl
      have u4 : wr.cell? ⟨gR, 4, none⟩ = some (.int .u64 (List.getD r 4 0)) := (blk_cell BKR.out 4).trans rfl
      have u5 : wr.cell? ⟨gR, 5, none⟩ = some (.int .u64 (List.getD r 5 0)) := (blk_cell BKR.out 5).trans rfl
      have uf0 := blk_frozen BKR.out 0
      have uf1 := blk_frozen BKR.out 1
      have uf2 := blk_frozen BKR.out 2
      have uf3 := blk_frozen BKR.out 3
      have uf4 := blk_frozen BKR.out 4
      have uf5 := blk_frozen BKR.out 5
      have cA := (blk_cell BKA.out m).trans (cs6_at a m i0)
      have HMS := Aside0.mk (And.intro hm hsh)
      clear hm hsh
      obtain ⟨x, hx⟩ : ∃ x, a.getD m 0 = x := ⟨_, rfl⟩
      rw [hx] at cA
      have hA := ha m
      rw [hx] at hA
      obtain ⟨b, hbb⟩ : ∃ b, bitAt a j = b := ⟨_, rfl⟩
      have hble := bit_le a j
      rw [hbb] at hble
      have kb : (x / 2 ^ sh).tmod 2 = b := by
        rw [← hbb, Int.tmod_eq_emod_of_nonneg (Int.ediv_nonneg hA.1 (Int.pow_nonneg (by decide)))]
        unfold bitAt
        rw [HMS.out.1, HMS.out.2, hx]
      have kb2 : IntKind.u64.wrap b = b := wraps_u64 _ (by omega) (by omega)
      have hstep : qStep a D (q, r) j = if lessL (twR r b 6) D 6 = true then (twR q 0 6, twR r b 6) else ((twR q 0 6).set 0 ((twR q 0 6).getD 0 0 + 1), minusR (twR r b 6) D 6) := by unfold qStep; rw [hbb]
      have htw := fun w => twice_calls r b H6.out.2.1 H6.out.2.2 hble w
      have htq := fun w => twice_calls q 0 H6.out.1.1 H6.out.1.2 (by decide) w
      have hd1 := tw_six r b H6.out.2
      have hd2 := tw_six q 0 H6.out.1
      have hev := tw_even q H6.out.1
      obtain ⟨R1, hR1⟩ : ∃ R1, twR r b 6 = R1 := ⟨_, rfl⟩
      obtain ⟨Q1, hQ1⟩ : ∃ Q1, twR q 0 6 = Q1 := ⟨_, rfl⟩
      rw [hR1] at htw hd1 hstep
      rw [hQ1] at htq hd2 hev hstep
      have hless := fun w => less_calls R1 D w
      have hminus := fun w => minus_calls R1 D hd1.1 hDd w
      have HSTEP := Aside0.mk hstep
      have HD1 := Aside0.mk hd1
      have HD2 := Aside0.mk hd2
      have HBIT := Aside0.mk (And.intro hx hbb)
      have q0 := hd2.1 0
      clear hR1 hQ1 hx hbb hd1 hd2 hstep hA
      go_wp2
      go_region_with (first | (go_at_call 62; refine (htw _).mono ?_; rintro e w1 ⟨rfl, hb⟩; clear u0 uf0 u1 uf1 u2 uf2 u3 uf3 u4 uf4 u5 uf5; clear cA; have m0_ := Aside0.mk (blk_below (by (repeat (first | exact BKA.out | refine blk_drewN ?_ _ | refine blk_drew ?_ | refine blk_alloc ?_ _))) hb); have m1_ := Aside0.mk (blk_below (by (repeat (first | exact BKZ.out | refine blk_drewN ?_ _ | refine blk_drew ?_ | refine blk_alloc ?_ _))) hb); have m2_ := Aside0.mk (blk_below (by (repeat (first | exact BKQ.out | refine blk_drewN ?_ _ | refine blk_drew ?_ | refine blk_alloc ?_ _))) hb); have m3_ := Aside0.mk (blk_below (by (repeat (first | exact BKR.out | refine blk_drewN ?_ _ | refine blk_drew ?_ | refine blk_alloc ?_ _))) hb); have m4_ := Aside0.mk (blk_below (by (repeat (first | exact BKD.out | refine blk_drewN ?_ _ | refine blk_drew ?_ | refine blk_alloc ?_ _))) hb); have n0_ := Aside0.mk (below_step (by repeat (first | (with_reducible first | exact HB.out | apply below_alloc | apply below_drew | apply pw_below_drewN | apply below_drew1) | exact HB.out)) hb); clear HB BKA BKZ BKQ BKR BKD; have HB := n0_; have BKA := m0_; have BKZ := m1_; have BKQ := m2_; have BKR := m3_; have BKD := m4_; clear n0_ m0_ m1_ m2_ m3_ m4_; clear hb; have u0 : w1.cell? ⟨gR, 0, none⟩ = some (.int .u64 (List.getD r 0 0)) := (blk_cell BKR.out 0).trans rfl; have u1 : w1.cell? ⟨gR, 1, none⟩ = some (.int .u64 (List.getD r 1 0)) := (blk_cell BKR.out 1).trans rfl; have u2 : w1.cell? ⟨gR, 2, none⟩ = some (.int .u64 (List.getD r 2 0)) := (blk_cell BKR.out 2).trans rfl; have u3 : w1.cell? ⟨gR, 3, none⟩ = some (.int .u64 (List.getD r 3 0)) := (blk_cell BKR.out 3).trans rfl; have u4 : w1.cell? ⟨gR, 4, none⟩ = some (.int .u64 (List.getD r 4 0)) := (blk_cell BKR.out 4).trans rfl; have u5 : w1.cell? ⟨gR, 5, none⟩ = some (.int .u64 (List.getD r 5 0)) := (blk_cell BKR.out 5).trans rfl; have uf0 := blk_frozen BKR.out 0; have uf1 := blk_frozen BKR.out 1; have uf2 := blk_frozen BKR.out 2; have uf3 := blk_frozen BKR.out 3; have uf4 := blk_frozen BKR.out 4; have uf5 := blk_frozen BKR.out 5))
      all_goals (
        generalize hW : World.setCell _ ⟨gR, 5, none⟩ _ = wS
        have nA_ : Aside0 (wS.heap[gA]? = some (.cells (cs6 a) 43 (0, 0))) := ⟨by rw [← hW]; exact far6 (by (repeat (first | exact BKA.out | refine blk_drewN ?_ _ | refine blk_drew ?_ | refine blk_alloc ?_ _))) NEAR.out _ _ _ _ _ _⟩
        have nZ_ : Aside0 (wS.heap[gZ]? = some (.cells (cs6 z6) 43 (0, 0))) := ⟨by rw [← hW]; exact far6 (by (repeat (first | exact BKZ.out | refine blk_drewN ?_ _ | refine blk_drew ?_ | refine blk_alloc ?_ _))) NEZR.out _ _ _ _ _ _⟩
        have nQ_ : Aside0 (wS.heap[gQ]? = some (.cells (cs6 q) 43 (0, 0))) := ⟨by rw [← hW]; exact far6 (by (repeat (first | exact BKQ.out | refine blk_drewN ?_ _ | refine blk_drew ?_ | refine blk_alloc ?_ _))) NEQR.out _ _ _ _ _ _⟩
        have nR_ : Aside0 (wS.heap[gR]? = some (.cells (cs6 R1) 43 (0, 0))) := ⟨by rw [← hW]; exact put6 (by (repeat (first | exact BKR.out | refine blk_drewN ?_ _ | refine blk_drew ?_ | refine blk_alloc ?_ _))) R1⟩
        have nD_ : Aside0 (wS.heap[gD]? = some (.cells (cs6 D) 43 (0, 0))) := ⟨by rw [← hW]; exact far6 (by (repeat (first | exact BKD.out | refine blk_drewN ?_ _ | refine blk_drew ?_ | refine blk_alloc ?_ _))) (fun h => NERD.out h.symm) _ _ _ _ _ _⟩
        have nB_ : Aside0 (Below w.heap.size w wS) := ⟨by rw [← hW]; exact bel6 (by repeat (first | (with_reducible first | exact HB.out | apply below_alloc | apply below_drew | apply pw_below_drewN | apply below_drew1) | exact HB.out)) GER.out _ _ _ _ _ _⟩
        clear u0 uf0 u1 uf1 u2 uf2 u3 uf3 u4 uf4 u5 uf5
        clear BKA BKZ BKQ BKR BKD HB hW
        have BKA := nA_
        have BKZ := nZ_
        have BKQ := nQ_
        have BKR := nR_
        have BKD := nD_
        have HB := nB_
        clear nA_ nZ_ nQ_ nR_ nD_ nB_
        have u0 : wS.cell? ⟨gQ, 0, none⟩ = some (.int .u64 (List.getD q 0 0)) := (blk_cell BKQ.out 0).trans rfl
        have u1 : wS.cell? ⟨gQ, 1, none⟩ = some (.int .u64 (List.getD q 1 0)) := (blk_cell BKQ.out 1).trans rfl
        have u2 : wS.cell? ⟨gQ, 2, none⟩ = some (.int .u64 (List.getD q 2 0)) := (blk_cell BKQ.out 2).trans rfl
        have u3 : wS.cell? ⟨gQ, 3, none⟩ = some (.int .u64 (List.getD q 3 0)) := (blk_cell BKQ.out 3).trans rfl
        have u4 : wS.cell? ⟨gQ, 4, none⟩ = some (.int .u64 (List.getD q 4 0)) := (blk_cell BKQ.out 4).trans rfl
        have u5 : wS.cell? ⟨gQ, 5, none⟩ = some (.int .u64 (List.getD q 5 0)) := (blk_cell BKQ.out 5).trans rfl
        have uf0 := blk_frozen BKQ.out 0
        have uf1 := blk_frozen BKQ.out 1
        have uf2 := blk_frozen BKQ.out 2
        have uf3 := blk_frozen BKQ.out 3
        have uf4 := blk_frozen BKQ.out 4
        have uf5 := blk_frozen BKQ.out 5
        go_upto_region 8 with (first | ((with_reducible refine gate_callee (f := 62) rfl ?_); refine goesL_ (some 26) rfl rfl Tryd.func62 (by kernel_rfl) rfl #[.agg (cs6 q), .int .u64 0] rfl (by (try simp only [List.map_toArray, List.map_cons, List.map_nil]); first | done | rfl) ?_; (refine (htq _).mono ?_); rintro e w1 ⟨rfl, hb⟩; refine ⟨_, rfl, ?_⟩; clear u0 uf0 u1 uf1 u2 uf2 u3 uf3 u4 uf4 u5 uf5; have m0_ := Aside0.mk (blk_below (by (repeat (first | exact BKA.out | refine blk_drewN ?_ _ | refine blk_drew ?_ | refine blk_alloc ?_ _))) hb); have m1_ := Aside0.mk (blk_below (by (repeat (first | exact BKZ.out | refine blk_drewN ?_ _ | refine blk_drew ?_ | refine blk_alloc ?_ _))) hb); have m2_ := Aside0.mk (blk_below (by (repeat (first | exact BKQ.out | refine blk_drewN ?_ _ | refine blk_drew ?_ | refine blk_alloc ?_ _))) hb); have m3_ := Aside0.mk (blk_below (by (repeat (first | exact BKR.out | refine blk_drewN ?_ _ | refine blk_drew ?_ | refine blk_alloc ?_ _))) hb); have m4_ := Aside0.mk (blk_below (by (repeat (first | exact BKD.out | refine blk_drewN ?_ _ | refine blk_drew ?_ | refine blk_alloc ?_ _))) hb); have n0_ := Aside0.mk (below_step (by repeat (first | (with_reducible first | exact HB.out | apply below_alloc | apply below_drew | apply pw_below_drewN | apply below_drew1) | exact HB.out)) hb); clear HB BKA BKZ BKQ BKR BKD; have HB := n0_; have BKA := m0_; have BKZ := m1_; have BKQ := m2_; have BKR := m3_; have BKD := m4_; clear n0_ m0_ m1_ m2_ m3_ m4_; clear hb; have u0 : w1.cell? ⟨gQ, 0, none⟩ = some (.int .u64 (List.getD q 0 0)) := (blk_cell BKQ.out 0).trans rfl; have u1 : w1.cell? ⟨gQ, 1, none⟩ = some (.int .u64 (List.getD q 1 0)) := (blk_cell BKQ.out 1).trans rfl; have u2 : w1.cell? ⟨gQ, 2, none⟩ = some (.int .u64 (List.getD q 2 0)) := (blk_cell BKQ.out 2).trans rfl; have u3 : w1.cell? ⟨gQ, 3, none⟩ = some (.int .u64 (List.getD q 3 0)) := (blk_cell BKQ.out 3).trans rfl; have u4 : w1.cell? ⟨gQ, 4, none⟩ = some (.int .u64 (List.getD q 4 0)) := (blk_cell BKQ.out 4).trans rfl; have u5 : w1.cell? ⟨gQ, 5, none⟩ = some (.int .u64 (List.getD q 5 0)) := (blk_cell BKQ.out 5).trans rfl; have uf0 := blk_frozen BKQ.out 0; have uf1 := blk_frozen BKQ.out 1; have uf2 := blk_frozen BKQ.out 2; have uf3 := blk_frozen BKQ.out 3; have uf4 := blk_frozen BKQ.out 4; have uf5 := blk_frozen BKQ.out 5))
        (try simp only [Act.put, List.setIfInBounds_toArray, List.set_cons_zero, List.set_cons_succ])
        generalize hW : World.setCell _ ⟨gQ, 5, none⟩ _ = wT
        have nA_ : Aside0 (wT.heap[gA]? = some (.cells (cs6 a) 43 (0, 0))) := ⟨by rw [← hW]; exact far6 (by (repeat (first | exact BKA.out | refine blk_drewN ?_ _ | refine blk_drew ?_ | refine blk_alloc ?_ _))) NEAQ.out _ _ _ _ _ _⟩
        have nZ_ : Aside0 (wT.heap[gZ]? = some (.cells (cs6 z6) 43 (0, 0))) := ⟨by rw [← hW]; exact far6 (by (repeat (first | exact BKZ.out | refine blk_drewN ?_ _ | refine blk_drew ?_ | refine blk_alloc ?_ _))) NEZQ.out _ _ _ _ _ _⟩
        have nQ_ : Aside0 (wT.heap[gQ]? = some (.cells (cs6 Q1) 43 (0, 0))) := ⟨by rw [← hW]; exact put6 (by (repeat (first | exact BKQ.out | refine blk_drewN ?_ _ | refine blk_drew ?_ | refine blk_alloc ?_ _))) Q1⟩
        have nR_ : Aside0 (wT.heap[gR]? = some (.cells (cs6 R1) 43 (0, 0))) := ⟨by rw [← hW]; exact far6 (by (repeat (first | exact BKR.out | refine blk_drewN ?_ _ | refine blk_drew ?_ | refine blk_alloc ?_ _))) (fun h => NEQR.out h.symm) _ _ _ _ _ _⟩
        have nD_ : Aside0 (wT.heap[gD]? = some (.cells (cs6 D) 43 (0, 0))) := ⟨by rw [← hW]; exact far6 (by (repeat (first | exact BKD.out | refine blk_drewN ?_ _ | refine blk_drew ?_ | refine blk_alloc ?_ _))) (fun h => NEQD.out h.symm) _ _ _ _ _ _⟩
        have nB_ : Aside0 (Below w.heap.size w wT) := ⟨by rw [← hW]; exact bel6 (by repeat (first | (with_reducible first | exact HB.out | apply below_alloc | apply below_drew | apply pw_below_drewN | apply below_drew1) | exact HB.out)) GEQ.out _ _ _ _ _ _⟩
        clear u0 uf0 u1 uf1 u2 uf2 u3 uf3 u4 uf4 u5 uf5
        clear BKA BKZ BKQ BKR BKD HB hW
        have BKA := nA_
        have BKZ := nZ_
        have BKQ := nQ_
        have BKR := nR_
        have BKD := nD_
        have HB := nB_
        clear nA_ nZ_ nQ_ nR_ nD_ nB_
        have u0 : wT.cell? ⟨gR, 0, none⟩ = some (.int .u64 (List.getD R1 0 0)) := (blk_cell BKR.out 0).trans rfl
        have u1 : wT.cell? ⟨gR, 1, none⟩ = some (.int .u64 (List.getD R1 1 0)) := (blk_cell BKR.out 1).trans rfl
        have u2 : wT.cell? ⟨gR, 2, none⟩ = some (.int .u64 (List.getD R1 2 0)) := (blk_cell BKR.out 2).trans rfl
        have u3 : wT.cell? ⟨gR, 3, none⟩ = some (.int .u64 (List.getD R1 3 0)) := (blk_cell BKR.out 3).trans rfl
        have u4 : wT.cell? ⟨gR, 4, none⟩ = some (.int .u64 (List.getD R1 4 0)) := (blk_cell BKR.out 4).trans rfl
        have u5 : wT.cell? ⟨gR, 5, none⟩ = some (.int .u64 (List.getD R1 5 0)) := (blk_cell BKR.out 5).trans rfl
        have uf0 := blk_frozen BKR.out 0
        have uf1 := blk_frozen BKR.out 1
        have uf2 := blk_frozen BKR.out 2
        have uf3 := blk_frozen BKR.out 3
        have uf4 := blk_frozen BKR.out 4
        have uf5 := blk_frozen BKR.out 5
        have v0 : wT.cell? ⟨gD, 0, none⟩ = some (.int .u64 (List.getD D 0 0)) := (blk_cell BKD.out 0).trans rfl
        have v1 : wT.cell? ⟨gD, 1, none⟩ = some (.int .u64 (List.getD D 1 0)) := (blk_cell BKD.out 1).trans rfl
        have v2 : wT.cell? ⟨gD, 2, none⟩ = some (.int .u64 (List.getD D 2 0)) := (blk_cell BKD.out 2).trans rfl
        have v3 : wT.cell? ⟨gD, 3, none⟩ = some (.int .u64 (List.getD D 3 0)) := (blk_cell BKD.out 3).trans rfl
        have v4 : wT.cell? ⟨gD, 4, none⟩ = some (.int .u64 (List.getD D 4 0)) := (blk_cell BKD.out 4).trans rfl
        have v5 : wT.cell? ⟨gD, 5, none⟩ = some (.int .u64 (List.getD D 5 0)) := (blk_cell BKD.out 5).trans rfl
        have vf0 := blk_frozen BKD.out 0
        have vf1 := blk_frozen BKD.out 1
        have vf2 := blk_frozen BKD.out 2
        have vf3 := blk_frozen BKD.out 3
        have vf4 := blk_frozen BKD.out 4
        have vf5 := blk_frozen BKD.out 5
        by_cases hls : lessL R1 D 6 = true
        · rw [hls] at hless
          have hfin : Aside0 (qS a D (192 - j) = (Q1, R1)) := ⟨by rw [hnext.out, HSTEP.out, if_pos hls]⟩
          clear hls
          go_wp2_with (first | ((with_reducible refine gate_callee (f := 29) rfl ?_); refine goesL_ (some 29) rfl rfl Tryd.func29 (by kernel_rfl) rfl #[.agg (cs6 R1), .agg (cs6 D)] rfl (by (try simp only [List.map_toArray, List.map_cons, List.map_nil]); first | done | rfl) ?_; (refine (hless _).mono ?_); rintro e w1 ⟨rfl, hb⟩; refine ⟨_, rfl, ?_⟩; clear u0 uf0 u1 uf1 u2 uf2 u3 uf3 u4 uf4 u5 uf5 v0 vf0 v1 vf1 v2 vf2 v3 vf3 v4 vf4 v5 vf5; have m0_ := Aside0.mk (blk_below (by (repeat (first | exact BKA.out | refine blk_drewN ?_ _ | refine blk_drew ?_ | refine blk_alloc ?_ _))) hb); have m1_ := Aside0.mk (blk_below (by (repeat (first | exact BKZ.out | refine blk_drewN ?_ _ | refine blk_drew ?_ | refine blk_alloc ?_ _))) hb); have m2_ := Aside0.mk (blk_below (by (repeat (first | exact BKQ.out | refine blk_drewN ?_ _ | refine blk_drew ?_ | refine blk_alloc ?_ _))) hb); have m3_ := Aside0.mk (blk_below (by (repeat (first | exact BKR.out | refine blk_drewN ?_ _ | refine blk_drew ?_ | refine blk_alloc ?_ _))) hb); have m4_ := Aside0.mk (blk_below (by (repeat (first | exact BKD.out | refine blk_drewN ?_ _ | refine blk_drew ?_ | refine blk_alloc ?_ _))) hb); have n0_ := Aside0.mk (below_step (by repeat (first | (with_reducible first | exact HB.out | apply below_alloc | apply below_drew | apply pw_below_drewN | apply below_drew1) | exact HB.out)) hb); clear HB BKA BKZ BKQ BKR BKD; have HB := n0_; have BKA := m0_; have BKZ := m1_; have BKQ := m2_; have BKR := m3_; have BKD := m4_; clear n0_ m0_ m1_ m2_ m3_ m4_; clear hb))
          go_roundg k2
          (case measure => omega)
          (case rel => exact ⟨j, Q1, R1, by first | rfl | (simp; done), by omega, by omega, hfin, BKA, BKZ, BKQ, BKR, BKD, HB⟩)
        · have hls' : lessL R1 D 6 = false := by simpa using hls
          rw [hls'] at hless
          have hfin : Aside0 (qS a D (192 - j) = (Q1.set 0 (Q1.getD 0 0 + 1), minusR R1 D 6)) := ⟨by rw [hnext.out, HSTEP.out, if_neg hls]⟩
          obtain ⟨P, hP⟩ : ∃ P, minusR R1 D 6 = P := ⟨_, rfl⟩
          rw [hP] at hminus hfin
          clear hls hls' hP
          go_upto_region 10 with (first | ((with_reducible refine gate_callee (f := 29) rfl ?_); refine goesL_ (some 29) rfl rfl Tryd.func29 (by kernel_rfl) rfl #[.agg (cs6 R1), .agg (cs6 D)] rfl (by (try simp only [List.map_toArray, List.map_cons, List.map_nil]); first | done | rfl) ?_; (refine (hless _).mono ?_); rintro e w1 ⟨rfl, hb⟩; refine ⟨_, rfl, ?_⟩; clear u0 uf0 u1 uf1 u2 uf2 u3 uf3 u4 uf4 u5 uf5 v0 vf0 v1 vf1 v2 vf2 v3 vf3 v4 vf4 v5 vf5; have m0_ := Aside0.mk (blk_below (by (repeat (first | exact BKA.out | refine blk_drewN ?_ _ | refine blk_drew ?_ | refine blk_alloc ?_ _))) hb); have m1_ := Aside0.mk (blk_below (by (repeat (first | exact BKZ.out | refine blk_drewN ?_ _ | refine blk_drew ?_ | refine blk_alloc ?_ _))) hb); have m2_ := Aside0.mk (blk_below (by (repeat (first | exact BKQ.out | refine blk_drewN ?_ _ | refine blk_drew ?_ | refine blk_alloc ?_ _))) hb); have m3_ := Aside0.mk (blk_below (by (repeat (first | exact BKR.out | refine blk_drewN ?_ _ | refine blk_drew ?_ | refine blk_alloc ?_ _))) hb); have m4_ := Aside0.mk (blk_below (by (repeat (first | exact BKD.out | refine blk_drewN ?_ _ | refine blk_drew ?_ | refine blk_alloc ?_ _))) hb); have n0_ := Aside0.mk (below_step (by repeat (first | (with_reducible first | exact HB.out | apply below_alloc | apply below_drew | apply pw_below_drewN | apply below_drew1) | exact HB.out)) hb); clear HB BKA BKZ BKQ BKR BKD; have HB := n0_; have BKA := m0_; have BKZ := m1_; have BKQ := m2_; have BKR := m3_; have BKD := m4_; clear n0_ m0_ m1_ m2_ m3_ m4_; clear hb; have u0 : w1.cell? ⟨gR, 0, none⟩ = some (.int .u64 (List.getD R1 0 0)) := (blk_cell BKR.out 0).trans rfl; have u1 : w1.cell? ⟨gR, 1, none⟩ = some (.int .u64 (List.getD R1 1 0)) := (blk_cell BKR.out 1).trans rfl; have u2 : w1.cell? ⟨gR, 2, none⟩ = some (.int .u64 (List.getD R1 2 0)) := (blk_cell BKR.out 2).trans rfl; have u3 : w1.cell? ⟨gR, 3, none⟩ = some (.int .u64 (List.getD R1 3 0)) := (blk_cell BKR.out 3).trans rfl; have u4 : w1.cell? ⟨gR, 4, none⟩ = some (.int .u64 (List.getD R1 4 0)) := (blk_cell BKR.out 4).trans rfl; have u5 : w1.cell? ⟨gR, 5, none⟩ = some (.int .u64 (List.getD R1 5 0)) := (blk_cell BKR.out 5).trans rfl; have uf0 := blk_frozen BKR.out 0; have uf1 := blk_frozen BKR.out 1; have uf2 := blk_frozen BKR.out 2; have uf3 := blk_frozen BKR.out 3; have uf4 := blk_frozen BKR.out 4; have uf5 := blk_frozen BKR.out 5; have v0 : w1.cell? ⟨gD, 0, none⟩ = some (.int .u64 (List.getD D 0 0)) := (blk_cell BKD.out 0).trans rfl; have v1 : w1.cell? ⟨gD, 1, none⟩ = some (.int .u64 (List.getD D 1 0)) := (blk_cell BKD.out 1).trans rfl; have v2 : w1.cell? ⟨gD, 2, none⟩ = some (.int .u64 (List.getD D 2 0)) := (blk_cell BKD.out 2).trans rfl; have v3 : w1.cell? ⟨gD, 3, none⟩ = some (.int .u64 (List.getD D 3 0)) := (blk_cell BKD.out 3).trans rfl; have v4 : w1.cell? ⟨gD, 4, none⟩ = some (.int .u64 (List.getD D 4 0)) := (blk_cell BKD.out 4).trans rfl; have v5 : w1.cell? ⟨gD, 5, none⟩ = some (.int .u64 (List.getD D 5 0)) := (blk_cell BKD.out 5).trans rfl; have vf0 := blk_frozen BKD.out 0; have vf1 := blk_frozen BKD.out 1; have vf2 := blk_frozen BKD.out 2; have vf3 := blk_frozen BKD.out 3; have vf4 := blk_frozen BKD.out 4; have vf5 := blk_frozen BKD.out 5) | ((with_reducible refine gate_callee (f := 31) rfl ?_); refine goesL_ (some 33) rfl rfl Tryd.func31 (by kernel_rfl) rfl #[.agg (cs6 R1), .agg (cs6 D)] rfl (by (try simp only [List.map_toArray, List.map_cons, List.map_nil]); first | done | rfl) ?_; (refine (hminus _).mono ?_); rintro e w1 ⟨rfl, hb⟩; refine ⟨_, rfl, ?_⟩; clear u0 uf0 u1 uf1 u2 uf2 u3 uf3 u4 uf4 u5 uf5 v0 vf0 v1 vf1 v2 vf2 v3 vf3 v4 vf4 v5 vf5; have m0_ := Aside0.mk (blk_below (by (repeat (first | exact BKA.out | refine blk_drewN ?_ _ | refine blk_drew ?_ | refine blk_alloc ?_ _))) hb); have m1_ := Aside0.mk (blk_below (by (repeat (first | exact BKZ.out | refine blk_drewN ?_ _ | refine blk_drew ?_ | refine blk_alloc ?_ _))) hb); have m2_ := Aside0.mk (blk_below (by (repeat (first | exact BKQ.out | refine blk_drewN ?_ _ | refine blk_drew ?_ | refine blk_alloc ?_ _))) hb); have m3_ := Aside0.mk (blk_below (by (repeat (first | exact BKR.out | refine blk_drewN ?_ _ | refine blk_drew ?_ | refine blk_alloc ?_ _))) hb); have m4_ := Aside0.mk (blk_below (by (repeat (first | exact BKD.out | refine blk_drewN ?_ _ | refine blk_drew ?_ | refine blk_alloc ?_ _))) hb); have n0_ := Aside0.mk (below_step (by repeat (first | (with_reducible first | exact HB.out | apply below_alloc | apply below_drew | apply pw_below_drewN | apply below_drew1) | exact HB.out)) hb); clear HB BKA BKZ BKQ BKR BKD; have HB := n0_; have BKA := m0_; have BKZ := m1_; have BKQ := m2_; have BKR := m3_; have BKD := m4_; clear n0_ m0_ m1_ m2_ m3_ m4_; clear hb; have u0 : w1.cell? ⟨gR, 0, none⟩ = some (.int .u64 (List.getD R1 0 0)) := (blk_cell BKR.out 0).trans rfl; have u1 : w1.cell? ⟨gR, 1, none⟩ = some (.int .u64 (List.getD R1 1 0)) := (blk_cell BKR.out 1).trans rfl; have u2 : w1.cell? ⟨gR, 2, none⟩ = some (.int .u64 (List.getD R1 2 0)) := (blk_cell BKR.out 2).trans rfl; have u3 : w1.cell? ⟨gR, 3, none⟩ = some (.int .u64 (List.getD R1 3 0)) := (blk_cell BKR.out 3).trans rfl; have u4 : w1.cell? ⟨gR, 4, none⟩ = some (.int .u64 (List.getD R1 4 0)) := (blk_cell BKR.out 4).trans rfl; have u5 : w1.cell? ⟨gR, 5, none⟩ = some (.int .u64 (List.getD R1 5 0)) := (blk_cell BKR.out 5).trans rfl; have uf0 := blk_frozen BKR.out 0; have uf1 := blk_frozen BKR.out 1; have uf2 := blk_frozen BKR.out 2; have uf3 := blk_frozen BKR.out 3; have uf4 := blk_frozen BKR.out 4; have uf5 := blk_frozen BKR.out 5; have v0 : w1.cell? ⟨gD, 0, none⟩ = some (.int .u64 (List.getD D 0 0)) := (blk_cell BKD.out 0).trans rfl; have v1 : w1.cell? ⟨gD, 1, none⟩ = some (.int .u64 (List.getD D 1 0)) := (blk_cell BKD.out 1).trans rfl; have v2 : w1.cell? ⟨gD, 2, none⟩ = some (.int .u64 (List.getD D 2 0)) := (blk_cell BKD.out 2).trans rfl; have v3 : w1.cell? ⟨gD, 3, none⟩ = some (.int .u64 (List.getD D 3 0)) := (blk_cell BKD.out 3).trans rfl; have v4 : w1.cell? ⟨gD, 4, none⟩ = some (.int .u64 (List.getD D 4 0)) := (blk_cell BKD.out 4).trans rfl; have v5 : w1.cell? ⟨gD, 5, none⟩ = some (.int .u64 (List.getD D 5 0)) := (blk_cell BKD.out 5).trans rfl; have vf0 := blk_frozen BKD.out 0; have vf1 := blk_frozen BKD.out 1; have vf2 := blk_frozen BKD.out 2; have vf3 := blk_frozen BKD.out 3; have vf4 := blk_frozen BKD.out 4; have vf5 := blk_frozen BKD.out 5))
          (try simp only [Act.put, List.setIfInBounds_toArray, List.set_cons_zero, List.set_cons_succ])
          generalize hW : World.setCell _ ⟨gR, 5, none⟩ _ = wU
          have nA_ : Aside0 (wU.heap[gA]? = some (.cells (cs6 a) 43 (0, 0))) := ⟨by rw [← hW]; exact far6 (by (repeat (first | exact BKA.out | refine blk_drewN ?_ _ | refine blk_drew ?_ | refine blk_alloc ?_ _))) NEAR.out _ _ _ _ _ _⟩
          have nZ_ : Aside0 (wU.heap[gZ]? = some (.cells (cs6 z6) 43 (0, 0))) := ⟨by rw [← hW]; exact far6 (by (repeat (first | exact BKZ.out | refine blk_drewN ?_ _ | refine blk_drew ?_ | refine blk_alloc ?_ _))) NEZR.out _ _ _ _ _ _⟩
          have nQ_ : Aside0 (wU.heap[gQ]? = some (.cells (cs6 Q1) 43 (0, 0))) := ⟨by rw [← hW]; exact far6 (by (repeat (first | exact BKQ.out | refine blk_drewN ?_ _ | refine blk_drew ?_ | refine blk_alloc ?_ _))) NEQR.out _ _ _ _ _ _⟩
          have nR_ : Aside0 (wU.heap[gR]? = some (.cells (cs6 P) 43 (0, 0))) := ⟨by rw [← hW]; exact put6 (by (repeat (first | exact BKR.out | refine blk_drewN ?_ _ | refine blk_drew ?_ | refine blk_alloc ?_ _))) P⟩
          have nD_ : Aside0 (wU.heap[gD]? = some (.cells (cs6 D) 43 (0, 0))) := ⟨by rw [← hW]; exact far6 (by (repeat (first | exact BKD.out | refine blk_drewN ?_ _ | refine blk_drew ?_ | refine blk_alloc ?_ _))) (fun h => NERD.out h.symm) _ _ _ _ _ _⟩
          have nB_ : Aside0 (Below w.heap.size w wU) := ⟨by rw [← hW]; exact bel6 (by repeat (first | (with_reducible first | exact HB.out | apply below_alloc | apply below_drew | apply pw_below_drewN | apply below_drew1) | exact HB.out)) GER.out _ _ _ _ _ _⟩
          clear u0 uf0 u1 uf1 u2 uf2 u3 uf3 u4 uf4 u5 uf5 v0 vf0 v1 vf1 v2 vf2 v3 vf3 v4 vf4 v5 vf5
          clear BKA BKZ BKQ BKR BKD HB hW
          have BKA := nA_
          have BKZ := nZ_
          have BKQ := nQ_
          have BKR := nR_
          have BKD := nD_
          have HB := nB_
          clear nA_ nZ_ nQ_ nR_ nD_ nB_
          have c0 : wU.cell? ⟨gQ, 0, none⟩ = some (.int .u64 (List.getD Q1 0 0)) := (blk_cell BKQ.out 0).trans rfl
          have cf0 := blk_frozen BKQ.out 0
          obtain ⟨z, hz⟩ : ∃ z, Q1.getD 0 0 = z := ⟨_, rfl⟩
          rw [hz] at c0
          have zb := HD2.out.1 0
          rw [hz] at zb
          have zw : IntKind.u64.wrap (z + 1) = z + 1 := wraps_u64 _ (by omega) (by omega)
          have BN : Aside0 ((wU.setCell ⟨gQ, 0, none⟩ (.int .u64 (z + 1))).heap[gQ]? = some (.cells (cs6 (Q1.set 0 (Q1.getD 0 0 + 1))) 43 (0, 0))) := ⟨by rw [hz]; exact blk_put BKQ.out 0 _ (cs6_set Q1 0 _ (by decide) HD2.out.2)⟩
          clear hz
          go_wp2
          go_roundg k2
          (case measure => omega)
          (case rel => exact ⟨j, Q1.set 0 (Q1.getD 0 0 + 1), P, by first | rfl | (simp; done), by omega, by omega, hfin, ⟨blk_far BKA.out NEAQ.out _⟩, ⟨blk_far BKZ.out NEZQ.out _⟩, BN, ⟨blk_far BKR.out (fun h => NEQR.out h.symm) _⟩, ⟨blk_far BKD.out (fun h => NEQD.out h.symm) _⟩, ⟨below_set HB.out GEQ.out⟩⟩))
    | zero =>
      have e0 : (((0 : Nat) : Int) - 1) = -1 := rfl
      rw [e0]
      have eq192 : q = res := by
        have h1 := HS.out
        rw [Nat.sub_zero] at h1
        have h2 := HRES.out
        rw [h1] at h2
        exact h2
      rw [eq192] at BKQ
      clear H6 HS eq192
      have u0 : wr.cell? ⟨gQ, 0, none⟩ = some (.int .u64 (List.getD res 0 0)) := (blk_cell BKQ.out 0).trans rfl
      have u1 : wr.cell? ⟨gQ, 1, none⟩ = some (.int .u64 (List.getD res 1 0)) := (blk_cell BKQ.out 1).trans rfl
      have u2 : wr.cell? ⟨gQ, 2, none⟩ = some (.int .u64 (List.getD res 2 0)) := (blk_cell BKQ.out 2).trans rfl
      have u3 : wr.cell? ⟨gQ, 3, none⟩ = some (.int .u64 (List.getD res 3 0)) := (blk_cell BKQ.out 3).trans rfl
      have u4 : wr.cell? ⟨gQ, 4, none⟩ = some (.int .u64 (List.getD res 4 0)) := (blk_cell BKQ.out 4).trans rfl
      have u5 : wr.cell? ⟨gQ, 5, none⟩ = some (.int .u64 (List.getD res 5 0)) := (blk_cell BKQ.out 5).trans rfl
      have uf0 := blk_frozen BKQ.out 0
      have uf1 := blk_frozen BKQ.out 1
      have uf2 := blk_frozen BKQ.out 2
      have uf3 := blk_frozen BKQ.out 3
      have uf4 := blk_frozen BKQ.out 4
      have uf5 := blk_frozen BKQ.out 5
      have s0 : wr.cell? ⟨gZ, 0, none⟩ = some (.int .u64 0) := (blk_cell BKZ.out 0).trans rfl
      have s1 : wr.cell? ⟨gZ, 1, none⟩ = some (.int .u64 0) := (blk_cell BKZ.out 1).trans rfl
      have s2 : wr.cell? ⟨gZ, 2, none⟩ = some (.int .u64 0) := (blk_cell BKZ.out 2).trans rfl
      have s3 : wr.cell? ⟨gZ, 3, none⟩ = some (.int .u64 0) := (blk_cell BKZ.out 3).trans rfl
      have s4 : wr.cell? ⟨gZ, 4, none⟩ = some (.int .u64 0) := (blk_cell BKZ.out 4).trans rfl
      have s5 : wr.cell? ⟨gZ, 5, none⟩ = some (.int .u64 0) := (blk_cell BKZ.out 5).trans rfl
      have u0_ := blk_frozen BKZ.out 0
      have u1_ := blk_frozen BKZ.out 1
      have u2_ := blk_frozen BKZ.out 2
      have u3_ := blk_frozen BKZ.out 3
      have u4_ := blk_frozen BKZ.out 4
      have u5_ := blk_frozen BKZ.out 5
      go_wp2
      generalize hW : World.setCell _ ⟨gZ, 5, none⟩ _ = wS
      have n0_ : Aside0 (wS.heap[gZ]? = some (.cells (cs6 res) 43 (0, 0))) := ⟨by rw [← hW]; exact put6 BKZ.out res⟩
      have n3_ : Aside0 (Below w.heap.size w wS) := ⟨by rw [← hW]; exact bel6 HB.out GEZ.out _ _ _ _ _ _⟩
      refine bodyPost_ret (results_cell_row rfl _ _ gZ 43 (cs6 res) (0, 0) _ rfl n0_.out Tryd.underlying43 rfl (by kernel_rfl)) rfl ?_
      exact ⟨rfl, n3_.out⟩
end Go.Proofs.YtkcncfikejepdaaDoor.Ext
