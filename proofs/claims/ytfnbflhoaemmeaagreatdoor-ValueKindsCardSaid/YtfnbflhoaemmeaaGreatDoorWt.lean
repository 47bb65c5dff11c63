/- The walk of the reference's times. Conditions: digits below 2^32; a magnitude below 2^64. -/
import Derived.Test.YtfnbflhoaemmeaaGreatDoorRsD
import Derived.WalkKit
namespace Go.Proofs.YtfnbflhoaemmeaaGreatDoor.Ext
open Go.RowKit Go.Proofs.YtfnbflhoaemmeaaGreatDoorW.PrintWords Go.Proofs.YtfnbflhoaemmeaaGreatDoorW.PrintLast Go.Proofs.YtfnbflhoaemmeaaGreatDoorW.PrintMore
attribute [local go_sem] max2_int min2_int max_two min_two max_three min_three max_four min_four cs6
set_option linter.unusedVariables false
set_option linter.unusedSimpArgs false
def tX (a b : List Int) (i k : Nat) (s : List Int × Int) : Int := s.2 + (s.1.getD (i + k) 0 + a.getD i 0 * b.getD k 0)
def tK (a b : List Int) (i : Nat) (R : List Int) : Nat → List Int × Int
 | 0 => (R, 0)
 | k + 1 => ((tK a b i R k).1.set (i + k) (tX a b i k (tK a b i R k) % 4294967296), tX a b i k (tK a b i R k) / 4294967296)
def tOut (a b : List Int) (i : Nat) (R : List Int) : List Int :=
 if i + 2 < 6 then (tK a b i R 2).1.set (i + 2) ((tK a b i R 2).1.getD (i + 2) 0 + (tK a b i R 2).2) else (tK a b i R (6 - i)).1
def tR (a b : List Int) : Nat → List Int
 | 0 => z6
 | m + 1 => tOut a b m (tR a b m)
theorem prod_le (a b : List Int) (ha : dig6 a) (hb : dig6 b) (i k : Nat) : 0 ≤ a.getD i 0 * b.getD k 0 ∧ a.getD i 0 * b.getD k 0 ≤ 18446744065119617025 :=
 mul_le _ _ (ha i).1 (by have := (ha i).2; omega) (hb k).1 (by have := (hb k).2; omega)
theorem tK_ok (a b : List Int) (ha : dig6 a) (hb : dig6 b) (i : Nat) (R : List Int) (hR : dig6 R) (hl : R.length = 6) : ∀ k, dig6 (tK a b i R k).1 ∧ (0 ≤ (tK a b i R k).2 ∧ (tK a b i R k).2 ≤ 4294967295) ∧ (tK a b i R k).1.length = 6 ∧ (0 ≤ tX a b i k (tK a b i R k) ∧ tX a b i k (tK a b i R k) ≤ 18446744073709551615)
 | 0 => by
  have p := prod_le a b ha hb i 0
  have r := hR (i + 0)
  refine ⟨hR, ⟨Int.le_refl 0, show (0 : Int) ≤ 4294967295 by decide⟩, hl, ?_⟩
  unfold tX tK
  dsimp only
  omega
 | k + 1 => by
  obtain ⟨h1, h2, h3, h4⟩ := tK_ok a b ha hb i R hR hl k
  have d : dig6 (tK a b i R (k + 1)).1 := set_dig _ _ _ h1 (by omega)
  have c : 0 ≤ (tK a b i R (k + 1)).2 ∧ (tK a b i R (k + 1)).2 ≤ 4294967295 := by
   show 0 ≤ tX a b i k (tK a b i R k) / 4294967296 ∧ tX a b i k (tK a b i R k) / 4294967296 ≤ 4294967295
   omega
  refine ⟨d, c, by show ((tK a b i R k).1.set _ _).length = 6; rw [List.length_set]; exact h3, ?_⟩
  have p := prod_le a b ha hb i (k + 1)
  have r := d (i + (k + 1))
  unfold tX
  omega
theorem getD_set (l : List Int) (m j : Nat) (x : Int) (h : j ≠ m) : (l.set m x).getD j 0 = l.getD j 0 := by
 rw [List.getD_eq_getElem?_getD, List.getElem?_set, if_neg (fun e => h e.symm), List.getD_eq_getElem?_getD]
theorem tK_far (a b : List Int) (i : Nat) (R : List Int) (j : Nat) : ∀ k, i + k ≤ j → (tK a b i R k).1.getD j 0 = R.getD j 0
 | 0, _ => rfl
 | k + 1, h => by
  show ((tK a b i R k).1.set _ _).getD j 0 = _
  rw [getD_set _ _ _ _ (by omega)]
  exact tK_far a b i R j k (by omega)
theorem tR_ok (a b : List Int) (ha : dig6 a) (hb : dig6 b) : ∀ m, dig6 (tR a b m) ∧ (tR a b m).length = 6 ∧ ∀ j, m + 2 ≤ j → (tR a b m).getD j 0 = 0
 | 0 => ⟨z_dig, rfl, fun j hj => by
   match j, hj with
   | 2, _ => rfl
   | 3, _ => rfl
   | 4, _ => rfl
   | 5, _ => rfl
   | j + 6, _ => rfl⟩
 | m + 1 => by
  obtain ⟨h1, h2, h3⟩ := tR_ok a b ha hb m
  rw [tR]
  unfold tOut
  by_cases c : m + 2 < 6
  ·rw [if_pos c]
   obtain ⟨k1, k2, k3, _⟩ := tK_ok a b ha hb m _ h1 h2 2
   have kf := tK_far a b m (tR a b m) (m + 2) 2 (by omega)
   rw [h3 _ (by omega)] at kf
   refine ⟨set_dig _ _ _ k1 (by omega), by rw [List.length_set]; exact k3, fun j hj => ?_⟩
   rw [getD_set _ _ _ _ (by omega), tK_far a b m _ j 2 (by omega)]
   exact h3 j (by omega)
  ·rw [if_neg c]
   obtain ⟨k1, k2, k3, _⟩ := tK_ok a b ha hb m _ h1 h2 (6 - m)
   refine ⟨k1, k3, fun j hj => ?_⟩
   rw [List.getD_eq_getElem?_getD, List.getElem?_eq_none (by omega)]
   rfl
theorem cs6_same (l : List Int) (m : Nat) (h : m < 6) (hl : l.length = 6) : (cs6 l).setIfInBounds m (.int .u64 (l.getD m 0)) = cs6 l := by
 match l, hl with
 | [a0, a1, a2, a3, a4, a5], _ =>
  match m, h with
  | 0, _ => rfl
  | 1, _ => rfl
  | 2, _ => rfl
  | 3, _ => rfl
  | 4, _ => rfl
  | 5, _ => rfl
set_option maxHeartbeats 8000000 in
set_option maxRecDepth 100000 in
theorem times_calls (a : List Int) (n : Int) (ha : dig6 a) (h0 : 0 ≤ n) (h1 : n < 18446744073709551616) (w : World) :
  Calls Tryz.prog 72 #[.agg (cs6 a), .int .u64 n] w fun e w' => e = .returned (.agg (cs6 (tR a (oneL n.toNat) 6))) ∧ Below w.heap.size w w' := by
 have hb1 := one_dig n.toNat (by omega)
 have hone : ∀ W : World, Calls Tryz.prog 74 #[.int .u64 n] W fun e w' => e = .returned (.agg (cs6 (oneL n.toNat))) ∧ Below W.heap.size W w' := fun W => by
  have c := one_calls n W h0 h1
  have e : oneL n.toNat = [n % 4294967296, n / 4294967296, 0, 0, 0, 0] := by unfold oneL; rw [Int.toNat_of_nonneg h0]
  rw [e]; exact c
 obtain ⟨b, hbb⟩ : ∃ b, oneL n.toNat = b := ⟨_, rfl⟩
 rw [hbb] at hone hb1 ⊢
 clear hbb
 obtain ⟨res, hres⟩ : ∃ r, tR a b 6 = r := ⟨_, rfl⟩
 rw [hres]
 have HB := Aside0.mk (Below.refl w.heap.size w)
 have hu43 := Tryz.underlying91
 go_enter Tryz.func72, Tryz.ntmps72
 go_upto_region 2 with (first | ((with_reducible refine gate_dst (N := 2) rfl ?_); refine box_event ?hg (N := 2) ?hd (cs := cs6 a) (t := 91) ?hr ?_; (case hd => rfl); (case hg => rfl); (case hr => first | (go_simp; done) | (go_simp; rfl)); intro gA hg wA hbox hb; have n0_ := Aside0.mk (below_step (by repeat (first | (with_reducible first | exact HB.out | apply below_alloc | apply below_drew | apply pw_below_drewN | apply below_drew1) | exact HB.out)) hb); have n1_ := Aside0.mk hbox; have GEA := Aside0.mk ((by rw [hg]; exact (below_size (by repeat (first | (with_reducible first | exact HB.out | apply below_alloc | apply below_drew | apply pw_below_drewN | apply below_drew1) | exact HB.out))) : w.heap.size ≤ gA)); clear HB; have HB := n0_; have BKA := n1_; clear n0_ n1_; clear hb hbox hg) | ((with_reducible refine gate_dst (N := 4) rfl ?_); refine box_event ?hg (N := 4) ?hd (cs := cs6 z6) (t := 91) ?hr ?_; (case hd => rfl); (case hg => rfl); (case hr => first | (go_simp; done) | (go_simp; rfl)); intro gZ hg wZ hbox hb; have n0_ := Aside0.mk (below_step (by repeat (first | (with_reducible first | exact HB.out | apply below_alloc | apply below_drew | apply pw_below_drewN | apply below_drew1) | exact HB.out)) hb); have n1_ := Aside0.mk hbox; have GEZ := Aside0.mk ((by rw [hg]; exact (below_size (by repeat (first | (with_reducible first | exact HB.out | apply below_alloc | apply below_drew | apply pw_below_drewN | apply below_drew1) | exact HB.out))) : w.heap.size ≤ gZ)); have m0_ := Aside0.mk (blk_below BKA.out hb); have NEAZ := Aside0.mk (show gA ≠ gZ by have := blk_lt BKA.out; omega); clear HB BKA; have HB := n0_; have BKZ := n1_; have BKA := m0_; clear n0_ n1_ m0_; clear hb hbox hg) | ((with_reducible refine gate_callee (f := 74) rfl ?_); refine goesL_ (some 12) rfl rfl Tryz.func74 (by kernel_rfl) rfl #[.int .u64 n] rfl (by (try simp only [List.map_toArray, List.map_cons, List.map_nil]); first | done | rfl) ?_; (refine (hone _).mono ?_); rintro e w1 ⟨rfl, hb⟩; refine ⟨_, rfl, ?_⟩; have n0_ := Aside0.mk (blk_below BKA.out hb); have n1_ := Aside0.mk (blk_below BKZ.out hb); have n2_ := Aside0.mk (below_step (by repeat (first | (with_reducible first | exact HB.out | apply below_alloc | apply below_drew | apply pw_below_drewN | apply below_drew1) | exact HB.out)) hb); clear BKA BKZ HB; have BKA := n0_; have BKZ := n1_; have HB := n2_; clear n0_ n1_ n2_; clear hb) | (((with_reducible refine gate_dst (N := 5) rfl ?_); refine box_event ?hg (N := 5) ?hd (cs := cs6 z6) (t := 91) ?hr ?_; (case hd => rfl); (case hg => rfl); (case hr => first | (go_simp; done) | (go_simp; rfl)); intro gB hg wB hbox hb; have n0_ := Aside0.mk (below_step (by repeat (first | (with_reducible first | exact HB.out | apply below_alloc | apply below_drew | apply pw_below_drewN | apply below_drew1) | exact HB.out)) hb); have n1_ := Aside0.mk hbox; have GEB := Aside0.mk ((by rw [hg]; exact (below_size (by repeat (first | (with_reducible first | exact HB.out | apply below_alloc | apply below_drew | apply pw_below_drewN | apply below_drew1) | exact HB.out))) : w.heap.size ≤ gB)); have m0_ := Aside0.mk (blk_below BKA.out hb); have NEAB := Aside0.mk (show gA ≠ gB by have := blk_lt BKA.out; omega); have m1_ := Aside0.mk (blk_below BKZ.out hb); have NEZB := Aside0.mk (show gZ ≠ gB by have := blk_lt BKZ.out; omega); clear HB BKA BKZ; have HB := n0_; have BKB := n1_; have BKA := m0_; have BKZ := m1_; clear n0_ n1_ m0_ m1_; clear hb hbox hg); have y0 : wB.cell? ⟨gB, 0, none⟩ = some (.int .u64 0) := (blk_cell BKB.out 0).trans rfl; have y1 : wB.cell? ⟨gB, 1, none⟩ = some (.int .u64 0) := (blk_cell BKB.out 1).trans rfl; have y2 : wB.cell? ⟨gB, 2, none⟩ = some (.int .u64 0) := (blk_cell BKB.out 2).trans rfl; have y3 : wB.cell? ⟨gB, 3, none⟩ = some (.int .u64 0) := (blk_cell BKB.out 3).trans rfl; have y4 : wB.cell? ⟨gB, 4, none⟩ = some (.int .u64 0) := (blk_cell BKB.out 4).trans rfl; have y5 : wB.cell? ⟨gB, 5, none⟩ = some (.int .u64 0) := (blk_cell BKB.out 5).trans rfl; have yf0 := blk_frozen BKB.out 0; have yf1 := blk_frozen BKB.out 1; have yf2 := blk_frozen BKB.out 2; have yf3 := blk_frozen BKB.out 3; have yf4 := blk_frozen BKB.out 4; have yf5 := blk_frozen BKB.out 5))
 (try simp only [Act.put, List.setIfInBounds_toArray, List.set_cons_zero, List.set_cons_succ])
 generalize hW : World.setCell _ ⟨gB, 5, none⟩ _ = wS
 have n0_ : Aside0 (wS.heap[gA]? = some (.cells (cs6 a) 91 (0, 0))) := ⟨by rw [← hW]; exact far6 BKA.out NEAB.out _ _ _ _ _ _⟩
 have n1_ : Aside0 (wS.heap[gZ]? = some (.cells (cs6 z6) 91 (0, 0))) := ⟨by rw [← hW]; exact far6 BKZ.out NEZB.out _ _ _ _ _ _⟩
 have n2_ : Aside0 (wS.heap[gB]? = some (.cells (cs6 b) 91 (0, 0))) := ⟨by rw [← hW]; exact put6 BKB.out b⟩
 have n3_ : Aside0 (Below w.heap.size w wS) := ⟨by rw [← hW]; exact bel6 HB.out GEB.out _ _ _ _ _ _⟩
 clear BKA BKZ BKB HB hW y0 y1 y2 y3 y4 y5 yf0 yf1 yf2 yf3 yf4 yf5
 have BKA := n0_
 have BKZ := n1_
 have BKB := n2_
 have HB := n3_
 clear n0_ n1_ n2_ n3_
 go_upto_block 0 with (first | ((with_reducible refine gate_dst (N := 6) rfl ?_); refine box_event ?hg (N := 6) ?hd (cs := cs6 z6) (t := 91) ?hr ?_; (case hd => rfl); (case hg => rfl); (case hr => first | (go_simp; done) | (go_simp; rfl)); intro gR hg wR hbox hb; have n0_ := Aside0.mk (below_step (by repeat (first | (with_reducible first | exact HB.out | apply below_alloc | apply below_drew | apply pw_below_drewN | apply below_drew1) | exact HB.out)) hb); have n1_ := Aside0.mk hbox; have GER := Aside0.mk ((by rw [hg]; exact (below_size (by repeat (first | (with_reducible first | exact HB.out | apply below_alloc | apply below_drew | apply pw_below_drewN | apply below_drew1) | exact HB.out))) : w.heap.size ≤ gR)); have m0_ := Aside0.mk (blk_below BKA.out hb); have NEAR := Aside0.mk (show gA ≠ gR by have := blk_lt BKA.out; omega); have m1_ := Aside0.mk (blk_below BKZ.out hb); have NEZR := Aside0.mk (show gZ ≠ gR by have := blk_lt BKZ.out; omega); have m2_ := Aside0.mk (blk_below BKB.out hb); have NEBR := Aside0.mk (show gB ≠ gR by have := blk_lt BKB.out; omega); clear HB BKA BKZ BKB; have HB := n0_; have BKR := n1_; have BKA := m0_; have BKZ := m1_; have BKB := m2_; clear n0_ n1_ m0_ m1_ m2_; clear hb hbox hg))
 (try simp only [Act.put, List.setIfInBounds_toArray, List.set_cons_zero, List.set_cons_succ])
 go_wp2
 go_loopg [7] 10 (fun kq v7 w' => ∃ m : Nat, v7 = .int .i64 (m : Int) ∧ m ≤ 6 ∧ m + kq = 10 ∧ Aside0 (w'.heap[gA]? = some (.cells (cs6 a) 91 (0, 0))) ∧ Aside0 (w'.heap[gZ]? = some (.cells (cs6 z6) 91 (0, 0))) ∧ Aside0 (w'.heap[gB]? = some (.cells (cs6 b) 91 (0, 0))) ∧ Aside0 (w'.heap[gR]? = some (.cells (cs6 (tR a b m)) 91 (0, 0))) ∧ Aside0 (Below w.heap.size w w'))
 case atStart => exact ⟨0, rfl, by omega, rfl, BKA, BKZ, BKB, BKR, HB⟩
 case round =>
  clear BKA BKZ BKB BKR HB
  obtain ⟨m, rfl, hm, hk, BKA, BKZ, BKB, BKR, HB⟩ := hrel
  obtain ⟨ok1, ok2, ok3⟩ := tR_ok a b ha hb1 m
  have hnext : tR a b (m + 1) = tOut a b m (tR a b m) := rfl
  obtain ⟨R, hR⟩ : ∃ R, tR a b m = R := ⟨_, rfl⟩
  rw [hR] at ok1 ok2 ok3 hnext BKR
  by_cases h6 : m < 6
  ·obtain ⟨k2, rfl⟩ : ∃ k2, gk = k2 + 1 := ⟨gk - 1, by omega⟩
   have k1 : decide ((m : Int) < 6) = true := decide_eq_true (by omega)
   clear hR hres
   go_wp2
   go_loopg [8, 9] 10 (fun kq v8 v9 w' => ∃ k : Nat, v8 = .int .u64 (tK a b m R k).2 ∧ v9 = .int .i64 (k : Int) ∧ k ≤ 2 ∧ m + k ≤ 6 ∧ k + kq = 10 ∧ Aside0 (w'.heap[gA]? = some (.cells (cs6 a) 91 (0, 0))) ∧ Aside0 (w'.heap[gZ]? = some (.cells (cs6 z6) 91 (0, 0))) ∧ Aside0 (w'.heap[gB]? = some (.cells (cs6 b) 91 (0, 0))) ∧ Aside0 (w'.heap[gR]? = some (.cells (cs6 (tK a b m R k).1) 91 (0, 0))) ∧ Aside0 (Below w.heap.size w w'))
   case atStart => exact ⟨0, rfl, rfl, by omega, by omega, rfl, BKA, BKZ, BKB, BKR, HB⟩
   case round =>
    clear BKA BKZ BKB BKR HB
    obtain ⟨k, rfl, rfl, hk2, hmk, hkq, BKA, BKZ, BKB, BKR, HB⟩ := hrel
    obtain ⟨d1, d2, d3, d4⟩ := tK_ok a b ha hb1 m R ok1 ok2 k
    have hn1 : (tK a b m R (k + 1)).1 = (tK a b m R k).1.set (m + k) (tX a b m k (tK a b m R k) % 4294967296) := rfl
    have hn2 : (tK a b m R (k + 1)).2 = tX a b m k (tK a b m R k) / 4294967296 := rfl
    by_cases hc : k < 2 ∧ m + k < 6
    ·obtain ⟨hc1, hc2⟩ := hc
     obtain ⟨k3, rfl⟩ : ∃ k3, gk = k3 + 1 := ⟨gk - 1, by omega⟩
     have j1 : decide ((k : Int) < 2) = true := decide_eq_true (by omega)
     have j2 : decide ((m : Int) + (k : Int) < 6) = true := decide_eq_true (by omega)
     have p1 : (0 ≤ (m : Int)) = True := eq_true (by omega)
     have p2 : ((m : Int) < 6) = True := eq_true (by omega)
     have p3 : (m < 6) = True := eq_true (by omega)
     have p4 : (0 ≤ (k : Int)) = True := eq_true (by omega)
     have p5 : ((k : Int) < 6) = True := eq_true (by omega)
     have p6 : (k < 6) = True := eq_true (by omega)
     have p7 : (0 ≤ (m : Int) + (k : Int)) = True := eq_true (by omega)
     have p8 : ((m : Int) + (k : Int) < 6) = True := eq_true (by omega)
     have p9 : ((m : Int) + (k : Int)).toNat = m + k := by omega
     have p10 : (m + k < 6) = True := eq_true (by omega)
     have hmk6 : m + k < 6 := by omega
     have cA := (blk_cell BKA.out m).trans (cs6_at a m h6)
     have cB := (blk_cell BKB.out k).trans (cs6_at b k (by omega))
     have cR := (blk_cell BKR.out (m + k)).trans (cs6_at _ (m + k) (by omega))
     have fR := blk_frozen BKR.out (m + k)
     have pr := prod_le a b ha hb1 m k
     have dr := d1 (m + k)
     unfold tX at hn1 hn2 d4
     obtain ⟨c, ec⟩ : ∃ c, (tK a b m R k).2 = c := ⟨_, rfl⟩
     obtain ⟨Rk, eR⟩ : ∃ c, (tK a b m R k).1 = c := ⟨_, rfl⟩
     rw [ec] at d2 d4 hn1 hn2 ⊢
     rw [eR] at d1 d3 d4 dr hn1 hn2 cR BKR
     obtain ⟨r, er⟩ : ∃ c, Rk.getD (m + k) 0 = c := ⟨_, rfl⟩
     obtain ⟨x, ex⟩ : ∃ c, a.getD m 0 = c := ⟨_, rfl⟩
     obtain ⟨y, ey⟩ : ∃ c, b.getD k 0 = c := ⟨_, rfl⟩
     rw [er] at cR dr d4 hn1 hn2
     rw [ex] at cA d4 hn1 hn2 pr
     rw [ey] at cB d4 hn1 hn2 pr
     obtain ⟨p, ep⟩ : ∃ c, x * y = c := ⟨_, rfl⟩
     rw [ep] at d4 hn1 hn2 pr
     have f0 : IntKind.u64.wrap p = p := wraps_u64 _ (by omega) (by omega)
     have f1 : IntKind.u64.wrap (r + p) = r + p := wraps_u64 _ (by omega) (by omega)
     have f2 : IntKind.u64.wrap (c + (r + p)) = c + (r + p) := wraps_u64 _ (by omega) (by omega)
     have f3 : (c + (r + p)).tmod 4294967296 = (c + (r + p)) % 4294967296 := Int.tmod_eq_emod_of_nonneg (by omega)
     have f4 : IntKind.u64.wrap ((c + (r + p)) % 4294967296) = (c + (r + p)) % 4294967296 := wraps_u64 _ (by omega) (by omega)
     have z1 : k + 1 ≤ 2 := by omega
     have z2 : m + (k + 1) ≤ 6 := by omega
     have z3 : ∀ q, k + (q + 1) = 10 → k + 1 + q = 10 := fun q h => by omega
     have z4 := z3 _ hkq
     clear ec eR er ex ey d1 d2 d4 dr pr hc1 hc2 z3
     go_wp2
     go_region
     all_goals go_wp2
     all_goals go_roundg k3
     all_goals first
      | (show _ < _; omega)
      | exact ⟨k + 1, by first | rw [hn2] | (rw [hn2]; simp [*]; done), by first | rfl | (simp; done), z1, z2, z4, ⟨blk_drew (blk_far BKA.out NEAR.out _)⟩, ⟨blk_drew (blk_far BKZ.out NEZR.out _)⟩, ⟨blk_drew (blk_far BKB.out NEBR.out _)⟩, ⟨blk_drew (blk_put BKR.out (m + k) _ (by rw [cs6_set _ _ _ hmk6 d3, ← hn1]))⟩, ⟨below_drew (below_set HB.out GER.out)⟩⟩
    ·have hend : (k = 2 ∧ m + 2 ≤ 6) ∨ (k = 1 ∧ m = 5) := by omega
     rcases hend with ⟨rfl, hm2⟩ | ⟨rfl, rfl⟩
     ·have j1 : decide (((2 : Nat) : Int) < 2) = false := by decide
      by_cases hm4 : m + 2 < 6
      ·have j3 : decide ((m : Int) + 2 < 6) = true := decide_eq_true (by omega)
       have p1 : (0 ≤ (m : Int) + 2) = True := eq_true (by omega)
       have p2 : ((m : Int) + 2 < 6) = True := eq_true (by omega)
       have p3 : (m + 2 < 6) = True := eq_true hm4
       have p9 : ((m : Int) + 2).toNat = m + 2 := by omega
       have cR := (blk_cell BKR.out (m + 2)).trans (cs6_at _ (m + 2) hm4)
       have fR := blk_frozen BKR.out (m + 2)
       have dr := d1 (m + 2)
       unfold tOut at hnext
       rw [if_pos hm4] at hnext
       obtain ⟨c, ec⟩ : ∃ c, (tK a b m R 2).2 = c := ⟨_, rfl⟩
       obtain ⟨Rk, eR⟩ : ∃ c, (tK a b m R 2).1 = c := ⟨_, rfl⟩
       rw [ec] at d2 hnext ⊢
       rw [eR] at d1 d3 dr hnext cR BKR
       obtain ⟨r, er⟩ : ∃ c, Rk.getD (m + 2) 0 = c := ⟨_, rfl⟩
       rw [er] at cR dr hnext
       have f1 : IntKind.u64.wrap (r + c) = r + c := wraps_u64 _ (by omega) (by omega)
       have z1 : m + 1 ≤ 6 := by omega
       have z2 : m + 1 + k2 = 10 := by omega
       clear ec eR er d1 d2 d4 dr hn1 hn2 hc
       go_wp2
       go_roundg k2
       case measure => omega
       case rel => exact ⟨m + 1, by first | rfl | (simp; done), z1, z2, ⟨blk_far BKA.out NEAR.out _⟩, ⟨blk_far BKZ.out NEZR.out _⟩, ⟨blk_far BKB.out NEBR.out _⟩, ⟨blk_put BKR.out (m + 2) _ (by rw [cs6_set _ _ _ hm4 d3, ← hnext])⟩, ⟨below_set HB.out GER.out⟩⟩
      ·obtain rfl : m = 4 := by omega
       unfold tOut at hnext
       rw [if_neg (by decide)] at hnext
       have hnext' : tR a b (4 + 1) = (tK a b 4 R 2).1 := hnext
       clear hnext hn1 hn2 hc d4
       go_wp2
       go_roundg k2
       case measure => omega
       case rel => exact ⟨5, by first | rfl | (simp; done), by omega, by omega, BKA, BKZ, BKB, by rw [show (5 : Nat) = 4 + 1 from rfl, hnext']; exact BKR, HB⟩
     ·unfold tOut at hnext
      rw [if_neg (by decide)] at hnext
      have hnext' : tR a b (5 + 1) = (tK a b 5 R 1).1 := hnext
      clear hnext hn1 hn2 hc d4
      go_wp2
      go_roundg k2
      case measure => omega
      case rel => exact ⟨6, by first | rfl | (simp; done), by omega, by omega, BKA, BKZ, BKB, by rw [show (6 : Nat) = 5 + 1 from rfl, hnext']; exact BKR, HB⟩
  ·obtain rfl : m = 6 := by omega
   have e6 : R = res := by rw [← hR, hres]
   clear hnext ok3 hR hres
   subst e6
   go_wp2
   go_loopg [10] 10 (fun kq v10 w' => ∃ m : Nat, v10 = .int .i64 (m : Int) ∧ m ≤ 5 ∧ m + kq = 10 ∧ Aside0 (w'.heap[gZ]? = some (.cells (cs6 z6) 91 (0, 0))) ∧ Aside0 (w'.heap[gR]? = some (.cells (cs6 R) 91 (0, 0))) ∧ Aside0 (Below w.heap.size w w'))
   case atStart => exact ⟨0, rfl, by omega, rfl, BKZ, BKR, HB⟩
   case round =>
    clear BKA BKZ BKB BKR HB
    obtain ⟨m, rfl, hm5, hk5, BKZ, BKR, HB⟩ := hrel
    by_cases h5 : m < 5
    ·obtain ⟨k3, rfl⟩ : ∃ k3, gk = k3 + 1 := ⟨gk - 1, by omega⟩
     have j1 : decide ((m : Int) + 1 < 6) = true := decide_eq_true (by omega)
     have p1 : (0 ≤ (m : Int)) = True := eq_true (by omega)
     have p2 : ((m : Int) < 6) = True := eq_true (by omega)
     have p3 : (m < 6) = True := eq_true (by omega)
     have p4 : (0 ≤ (m : Int) + 1) = True := eq_true (by omega)
     have p5 : ((m : Int) + 1 < 6) = True := eq_true (by omega)
     have p6 : (m + 1 < 6) = True := eq_true (by omega)
     have p7 : ((m : Int) + 1).toNat = m + 1 := by omega
     have c0 := (blk_cell BKR.out m).trans (cs6_at R m (by omega))
     have c1 := (blk_cell BKR.out (m + 1)).trans (cs6_at R (m + 1) (by omega))
     have f0 := blk_frozen BKR.out m
     have f1 := blk_frozen BKR.out (m + 1)
     have s0 := cs6_same R m (by omega) ok2
     have s1 := cs6_same R (m + 1) (by omega) ok2
     have d0 := ok1 m
     have d1 := ok1 (m + 1)
     obtain ⟨x, ex⟩ : ∃ c, R.getD m 0 = c := ⟨_, rfl⟩
     obtain ⟨y, ey⟩ : ∃ c, R.getD (m + 1) 0 = c := ⟨_, rfl⟩
     rw [ex] at c0 s0 d0
     rw [ey] at c1 s1 d1
     have g0 : x / 4294967296 = 0 := by omega
     have g1 : IntKind.u64.wrap y = y := wraps_u64 _ (by omega) (by omega)
     have g2 : x.tmod 4294967296 = x := by rw [Int.tmod_eq_emod_of_nonneg (by omega)]; omega
     have g3 : IntKind.u64.wrap x = x := wraps_u64 _ (by omega) (by omega)
     have z1 : m + 1 ≤ 5 := by omega
     have z2 : m + 1 + k3 = 10 := by omega
     clear ex ey d0 d1
     have ne1 : (m + 1 = m) = False := eq_false (by omega)
     have ne2 : (m = m + 1) = False := eq_false (by omega)
     go_wp2
     go_region
     all_goals go_wp2
     all_goals go_roundg k3
     all_goals first
      | (show _ < _; omega)
      | exact ⟨m + 1, by first | rfl | (simp; done), z1, z2, ⟨blk_drew (blk_far (blk_far BKZ.out NEZR.out _) NEZR.out _)⟩, ⟨blk_drew (blk_put (blk_put BKR.out (m + 1) _ s1) m _ s0)⟩, ⟨below_drew (below_set (below_set HB.out GER.out) GER.out)⟩⟩
    ·obtain rfl : m = 5 := by omega
     clear ok2
     have r0 : wr.cell? ⟨gR, 0, none⟩ = some (.int .u64 (R.getD 0 0)) := (blk_cell BKR.out 0).trans rfl
     have r1 : wr.cell? ⟨gR, 1, none⟩ = some (.int .u64 (R.getD 1 0)) := (blk_cell BKR.out 1).trans rfl
     have r2 : wr.cell? ⟨gR, 2, none⟩ = some (.int .u64 (R.getD 2 0)) := (blk_cell BKR.out 2).trans rfl
     have r3 : wr.cell? ⟨gR, 3, none⟩ = some (.int .u64 (R.getD 3 0)) := (blk_cell BKR.out 3).trans rfl
     have r4 : wr.cell? ⟨gR, 4, none⟩ = some (.int .u64 (R.getD 4 0)) := (blk_cell BKR.out 4).trans rfl
     have r5 : wr.cell? ⟨gR, 5, none⟩ = some (.int .u64 (R.getD 5 0)) := (blk_cell BKR.out 5).trans rfl
     have s0 : wr.cell? ⟨gZ, 0, none⟩ = some (.int .u64 0) := (blk_cell BKZ.out 0).trans rfl
     have s1 : wr.cell? ⟨gZ, 1, none⟩ = some (.int .u64 0) := (blk_cell BKZ.out 1).trans rfl
     have s2 : wr.cell? ⟨gZ, 2, none⟩ = some (.int .u64 0) := (blk_cell BKZ.out 2).trans rfl
     have s3 : wr.cell? ⟨gZ, 3, none⟩ = some (.int .u64 0) := (blk_cell BKZ.out 3).trans rfl
     have s4 : wr.cell? ⟨gZ, 4, none⟩ = some (.int .u64 0) := (blk_cell BKZ.out 4).trans rfl
     have s5 : wr.cell? ⟨gZ, 5, none⟩ = some (.int .u64 0) := (blk_cell BKZ.out 5).trans rfl
     have u0_ := blk_frozen BKZ.out 0
     have u1_ := blk_frozen BKZ.out 1
     have u2_ := blk_frozen BKZ.out 2
     have u3_ := blk_frozen BKZ.out 3
     have u4_ := blk_frozen BKZ.out 4
     have u5_ := blk_frozen BKZ.out 5
     go_wp2
     generalize hW : World.setCell _ ⟨gZ, 5, none⟩ _ = wS
     have n0_ : Aside0 (wS.heap[gZ]? = some (.cells (cs6 R) 91 (0, 0))) := ⟨by rw [← hW]; exact put6 BKZ.out R⟩
     have n3_ : Aside0 (Below w.heap.size w wS) := ⟨by rw [← hW]; exact bel6 HB.out GEZ.out _ _ _ _ _ _⟩
     refine bodyPost_ret (results_cell_row rfl _ _ gZ 91 (cs6 R) (0, 0) _ rfl n0_.out Tryz.underlying91 rfl (by kernel_rfl)) rfl ?_
     exact ⟨rfl, n3_.out⟩
end Go.Proofs.YtfnbflhoaemmeaaGreatDoor.Ext
