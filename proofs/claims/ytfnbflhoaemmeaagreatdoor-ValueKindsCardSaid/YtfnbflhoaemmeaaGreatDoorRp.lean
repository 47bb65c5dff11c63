/- The walk of the reference's Parse, over any contract of its times(w, 10). Condition: a text of at most a thousand bytes. -/
import Derived.Test.YtfnbflhoaemmeaaGreatDoorRsD
import Derived.Deep.RegionWith
import Derived.Deep.QuietTactic
import Derived.WalkKit
namespace Go.Proofs.YtfnbflhoaemmeaaGreatDoor.Ext
open Go.RowKit Go.Proofs.YtfnbflhoaemmeaaGreatDoorW.PrintWords Go.Proofs.YtfnbflhoaemmeaaGreatDoorW.PrintLast Go.Proofs.YtfnbflhoaemmeaaGreatDoorW.PrintMore
attribute [local go_sem] max2_int min2_int max_two min_two max_three min_three max_four min_four cs6
set_option linter.unusedVariables false
set_option linter.unusedSimpArgs false
theorem wp_cut3 {P : Program} {Q : Exit → Act → World → Prop} {a : Act} {w : World} {x0 x1 x2 y : Code} (M : Act → World → Prop)
  (h1 : ∀ K0 K1 : Act → World → Prop, (∀ a w, x1.wp P (Exit.then K1 Q) a w → K0 a w) → (∀ a w, x2.wp P (Exit.then M Q) a w → K1 a w) → x0.wp P (Exit.then K0 Q) a w) (h2 : ∀ a' w', M a' w' → y.wp P Q a' w') : (Code.seq x0 (Code.seq x1 (Code.seq x2 y))).wp P Q a w := by
 refine wp_seq (wp_mono (h1 (fun a w => x1.wp P (Exit.then (fun a w => x2.wp P (Exit.then M Q) a w) Q) a w) (fun a w => x2.wp P (Exit.then M Q) a w) (fun _ _ h => h) (fun _ _ h => h)) fun e a' w' he => ?_)
 cases e with
 | normal => exact wp_seq (wp_mono he fun e2 a2 w2 h => by
   cases e2 with
   | normal => exact wp_seq (wp_mono h fun e3 a3 w3 h3 => by
     cases e3 with
     | normal => exact h2 _ _ h3
     | _ => exact h3)
   | _ => exact h)
 | _ => exact he
def normW (X : List Int) : List Int := if X.getD 3 0 = 0 then X else ((X.set 4 0).set 5 0).set 3 1
def digW (T : List Int → List Int) (V : List Int) (d : Int) : List Int := normW (plusR (T V) (oneL d.toNat) 6)
def pStep (T : List Int → List Int) (st : List Int × Option Nat) (i : Nat) (c : Int) : Option (List Int × Option Nat) := if c = 46 ∧ st.2 = none then some (st.1, some i) else if c < 48 ∨ 57 < c then none else some (digW T st.1 (c - 48), st.2)
/-- the first bytes of a text, read -/
def pSt (T : List Int → List Int) (x : ByteArray) : Nat → Option (List Int × Option Nat)
 | 0 => some (z6, none)
 | i + 1 => match pSt T x i with | none => none | some st => pStep T st i (bt x i)
def ptI : Option Nat → Int | none => -1 | some j => j
def tpow (T : List Int → List Int) (V : List Int) : Nat → List Int | 0 => V | k + 1 => T (tpow T V k)
def endP (T : List Int → List Int) (x : ByteArray) (neg : Bool) : Int × Bool :=
 match pSt T x x.size with
 | none => (0, false)
 | some (V, none) => if x.size = 0 ∨ 1 < x.size ∧ bt x 0 = 48 then (0, false) else fixL (tpow T V 4) neg
 | some (V, some j) => if x.size < j + 2 ∨ j + 5 < x.size then (0, false) else if j = 0 ∨ 1 < j ∧ bt x 0 = 48 then (0, false) else fixL (tpow T V (4 - (x.size - j - 1))) neg
def refP (T : List Int → List Int) (x : ByteArray) : Int × Bool := if 0 < x.size ∧ bt x 0 = 45 then endP T (x.extract 1 x.size) true else endP T x false
theorem pSt_none (T : List Int → List Int) (x : ByteArray) (i : Nat) (h : pSt T x i = none) : ∀ k, pSt T x (i + k) = none
 | 0 => h
 | k + 1 => by show (match pSt T x (i + k) with | none => none | some st => pStep T st (i + k) (bt x (i + k))) = none; rw [pSt_none T x i h k]
theorem endP_none (T : List Int → List Int) (x : ByteArray) (neg : Bool) (i : Nat) (hi : i ≤ x.size) (h : pSt T x i = none) : endP T x neg = (0, false) := by
 have := pSt_none T x i h (x.size - i)
 rw [show i + (x.size - i) = x.size by omega] at this
 unfold endP
 rw [this]
theorem tl_nil (y : ByteArray) : y.toList = [] ↔ y.size = 0 := by
 have e : y.toList.length = y.size := by rw [ByteArray.toList_eq]; exact (Lib.size_eq y).symm
 constructor
 ·intro h; rw [h] at e; exact e.symm
 ·intro h; exact List.eq_nil_of_length_eq_zero (e.trans h)
theorem tpow_ok (T : List Int → List Int) (hT : ∀ V, dig6 V → V.length = 6 → dig6 (T V) ∧ (T V).length = 6) (V : List Int) (h : dig6 V) (hl : V.length = 6) : ∀ k, dig6 (tpow T V k) ∧ (tpow T V k).length = 6
 | 0 => ⟨h, hl⟩
 | k + 1 => hT _ (tpow_ok T hT V h hl k).1 (tpow_ok T hT V h hl k).2
theorem norm_dig (X : List Int) (h : dig6 X) : dig6 (normW X) := by
 unfold normW
 split
 ·exact h
 ·exact set_dig _ _ _ (set_dig _ _ _ (set_dig _ _ _ h (by decide)) (by decide)) (by decide)
theorem norm_len (X : List Int) (h : X.length = 6) : (normW X).length = 6 := by
 unfold normW
 split
 ·exact h
 ·simpa using h
set_option maxHeartbeats 16000000 in
set_option maxRecDepth 100000 in
theorem refP_walk (T : List Int → List Int) (hT : ∀ V, dig6 V → V.length = 6 → dig6 (T V) ∧ (T V).length = 6)
  (hc : ∀ V w, dig6 V → V.length = 6 → Calls Tryz.prog 72 #[.agg (cs6 V), .int .u64 10] w fun e w' => e = .returned (.agg (cs6 (T V))) ∧ Below w.heap.size w w') (x : ByteArray) (hx : x.size ≤ 1000) (w : World) :
  Calls Tryz.prog 46 #[.string x] w fun e w' => e = .returned (.tuple #[.int .i64 (refP T x).1, .bool (refP T x).2]) ∧ Below w.heap.size w w' := by
 have HT := Aside0.mk hT
 have HC := Aside0.mk hc
 clear hT hc
 obtain ⟨⟨R1, R2⟩, hres⟩ : ∃ r, refP T x = r := ⟨_, rfl⟩
 rw [hres]
 dsimp only
 have HB := Aside0.mk (Below.refl w.heap.size w)
 have hu43 := Tryz.underlying91
 have HRES := Aside0.mk hres
 clear hres
 go_enter Tryz.func46, Tryz.ntmps46
 obtain ⟨Mid, hMid⟩ : ∃ Mid : Act → World → Prop, ∀ a' w', Mid a' w' ↔ ∃ (u11_ u12_ u13_ u14_ u15_ u16_ u17_ u18_ u19_ u20_ u21_ : Value) (y : ByteArray) (neg : Bool), y.size ≤ 1000 ∧ endP T y neg = (R1, R2) ∧ a' = ({ tmps := #[.string y, undef, .int .i64 0, .bool false, .bool neg, undef, undef, undef, undef, undef, undef, u11_, u12_, u13_, u14_, u15_, u16_, u17_, u18_, u19_, u20_, u21_, undef, undef, undef, undef, undef, undef, undef, undef, undef, undef, undef, undef, undef, undef, undef, undef, undef, undef, undef, undef, undef, undef, undef, undef, undef, undef, undef, undef, undef, undef, undef, undef, undef, undef, undef, undef, undef, undef, undef, undef, undef, undef, undef, undef, undef, undef, undef, undef, undef, undef, undef, undef, undef, undef, undef, undef, undef, undef, undef, undef, undef, undef, undef, undef, undef, undef, undef, undef, undef, undef, undef, undef, undef, undef, undef, undef, undef, undef, undef, undef, undef, undef], defers := [] } : Act) ∧ w' = w := ⟨_, fun _ _ => Iff.rfl⟩
 have HMid := Aside0.mk hMid
 clear hMid
 refine wp_cut3 Mid ?_ ?_
 ·intro K0 K1 hK0 hK1
  by_cases c0 : 0 < x.size
  ·have d0 : decide ((0 : Int) < (x.size : Int)) = true := decide_eq_true (by omega)
   have hx0 : ∀ h : 0 < x.size, ((x[0]'h).toNat : Int) = bt x 0 := fun h => bt_at x 0 h
   have d00 : (0 < x.size) = True := eq_true c0
   by_cases c1 : bt x 0 = 45
   ·have e1 : (bt x 0 == 45) = true := beq_iff_eq.2 c1
    have e2 : decide (bt x 0 = 45) = true := decide_eq_true c1
    have HR2 : Aside0 (endP T (x.extract 1 x.size) true = (R1, R2)) := ⟨by have := HRES.out; unfold refP at this; rw [if_pos ⟨c0, c1⟩] at this; exact this⟩
    go_wp2
    exact (HMid.out _ _).2 ⟨_, _, _, _, _, _, _, _, _, _, _, x.extract 1 x.size, true, by rw [ByteArray.size_extract]; omega, HR2.out, rfl, rfl⟩
   ·have e1 : (bt x 0 == 45) = false := beq_eq_false_iff_ne.2 c1
    have e2 : decide (bt x 0 = 45) = false := decide_eq_false c1
    have HR2 : Aside0 (endP T x false = (R1, R2)) := ⟨by have := HRES.out; unfold refP at this; rw [if_neg (fun h => c1 h.2)] at this; exact this⟩
    go_wp2
    exact (HMid.out _ _).2 ⟨_, _, _, _, _, _, _, _, _, _, _, x, false, hx, HR2.out, rfl, rfl⟩
  ·have d0 : decide ((0 : Int) < (x.size : Int)) = false := decide_eq_false (by omega)
   have HR2 : Aside0 (endP T x false = (R1, R2)) := ⟨by have := HRES.out; unfold refP at this; rw [if_neg (fun h => c0 h.1)] at this; exact this⟩
   go_wp2
   exact (HMid.out _ _).2 ⟨_, _, _, _, _, _, _, _, _, _, _, x, false, hx, HR2.out, rfl, rfl⟩
 ·intro a' w' hm
  obtain ⟨u11_, u12_, u13_, u14_, u15_, u16_, u17_, u18_, u19_, u20_, u21_, y, neg, hy, hres, ha, hw⟩ := (HMid.out _ _).1 hm
  rw [ha, hw]
  clear hm HMid ha hw a' w' HRES hx x
  go_upto_block 0 with (first | ((with_reducible refine gate_dst (N := 5) rfl ?_); refine box_event ?hg (N := 5) ?hd (cs := cs6 z6) (t := 91) ?hr ?_; (case hd => rfl); (case hg => rfl); (case hr => first | (go_simp; done) | (go_simp; rfl)); intro gW hg wW hbox hb; have n0_ := Aside0.mk (below_step (by repeat (first | (with_reducible first | exact HB.out | apply below_alloc | apply below_drew | apply pw_below_drewN | apply below_drew1) | exact HB.out)) hb); have n1_ := Aside0.mk hbox; have GEW := Aside0.mk ((by rw [hg]; exact (below_size (by repeat (first | (with_reducible first | exact HB.out | apply below_alloc | apply below_drew | apply pw_below_drewN | apply below_drew1) | exact HB.out))) : w.heap.size ≤ gW)); clear HB; have HB := n0_; have BKW := n1_; clear n0_ n1_; clear hb hbox hg))
  (try simp only [Act.put, List.setIfInBounds_toArray, List.set_cons_zero, List.set_cons_succ])
  have HRES := Aside0.mk hres
  clear hres
  go_wp2
  go_loopg [6, 7] (y.size + 5) (fun kq v6 v7 w' => ∃ (i : Nat) (V : List Int) (pt : Option Nat), v7 = .int .i64 (i : Int) ∧ v6 = .int .i64 (ptI pt) ∧ i ≤ y.size ∧ y.size - i < kq ∧ Aside0 (pSt T y i = some (V, pt)) ∧ dig6 V ∧ V.length = 6 ∧ (∀ j, pt = some j → j < i) ∧ Aside0 (w'.heap[gW]? = some (.cells (cs6 V) 91 (0, 0))) ∧ Aside0 (Below w.heap.size w w'))
  case atStart => exact ⟨0, z6, none, rfl, rfl, Nat.zero_le _, by omega, ⟨rfl⟩, z_dig, rfl, fun j h => (nomatch h), BKW, HB⟩
  case round =>
   clear BKW HB
   obtain ⟨i, V, pt, rfl, rfl, hi, hk, HP, hV, hVl, hpt, BKW, HB⟩ := hrel
   cases gk with
   | zero => omega
   | succ k2 =>
    by_cases c : i < y.size
    ·have q3 : decide ((i : Int) < (y.size : Int)) = true := decide_eq_true (by omega)
     have q4 : IntKind.i64.wrap ((i : Int) + 1) = (i : Int) + 1 := by rw [IntKind.wrap_i64]; omega
     have q5 : (0 ≤ (i : Int)) = True := eq_true (by omega)
     have q6 : ((i : Int) < (y.size : Int)) = True := eq_true (by omega)
     have hx : ∀ h : i < y.size, ((y[i]'h).toNat : Int) = bt y (i : Int) := fun h => bt_at y (i : Int) h
     have hr := bt_range y (i : Int)
     have hnx : pSt T y (i + 1) = pStep T (V, pt) i (bt y i) := by show (match pSt T y i with | none => none | some st => pStep T st i (bt y i)) = _; rw [HP.out]
     obtain ⟨b, hb⟩ : ∃ b, bt y (i : Int) = b := ⟨_, rfl⟩
     rw [hb] at hr hnx
     by_cases c46 : b = 46
     ·subst c46
      rw [hb] at hx
      have HBB := Aside0.mk hb
      clear hb
      cases pt with
      | none =>
       have p0 : ptI none = -1 := rfl
       have hn2 : Aside0 (pSt T y (i + 1) = some (V, some i)) := ⟨hnx⟩
       clear hnx
       go_wp2
       go_roundg k2
       case measure => omega
       case rel => exact ⟨i + 1, V, some i, by simp, by first | rfl | (simp [ptI]; done), by omega, by omega, hn2, hV, hVl, fun j h => by injection h with h; omega, BKW, HB⟩
      | some j =>
       have p0 : ptI (some j) = (j : Int) := rfl
       have p1 : decide ((j : Int) < 0) = false := decide_eq_false (by omega)
       have hend := endP_none T y neg (i + 1) c hnx
       rw [HRES.out] at hend
       injection hend with hR1 hR2
       subst hR1 hR2
       clear hnx
       go_wp2
       go_ret2
       exact ⟨by first | rfl | (simp; done), HB.out⟩
     ·have r46 : (b == 46) = false := beq_eq_false_iff_ne.2 c46
      have s46 : decide (b = 46) = false := decide_eq_false c46
      rw [hb] at hx
      have HBB := Aside0.mk hb
      clear hb
      by_cases c48 : b < 48
      ·have p1 : decide (b < 48) = true := decide_eq_true c48
       have hend := endP_none T y neg (i + 1) c (by rw [hnx]; unfold pStep; rw [if_neg (fun h => c46 h.1), if_pos (.inl c48)])
       rw [HRES.out] at hend
       injection hend with hR1 hR2
       subst hR1 hR2
       clear hnx
       go_wp2
       go_ret2
       exact ⟨by first | rfl | (simp; done), HB.out⟩
      ·have p1 : decide (b < 48) = false := decide_eq_false c48
       by_cases c57 : 57 < b
       ·have p2 : decide (57 < b) = true := decide_eq_true c57
        have hend := endP_none T y neg (i + 1) c (by rw [hnx]; unfold pStep; rw [if_neg (fun h => c46 h.1), if_pos (.inr c57)])
        rw [HRES.out] at hend
        injection hend with hR1 hR2
        subst hR1 hR2
        clear hnx
        go_wp2
        go_ret2
        exact ⟨by first | rfl | (simp; done), HB.out⟩
       ·have p2 : decide (57 < b) = false := decide_eq_false c57
        have hn2 : Aside0 (pSt T y (i + 1) = some (digW T V (b - 48), pt)) := ⟨by rw [hnx]; unfold pStep; rw [if_neg (fun h => c46 h.1), if_neg (by omega)]⟩
        clear hnx
        obtain ⟨t1, t2⟩ := HT.out V hV hVl
        have htimes := fun w => HC.out V w hV hVl
        unfold digW at hn2
        obtain ⟨A, hA⟩ : ∃ A, T V = A := ⟨_, rfl⟩
        rw [hA] at t1 t2 htimes hn2
        clear hA
        have hDd := one_dig (b - 48).toNat (by omega)
        have hone : ∀ W : World, Calls Tryz.prog 74 #[.int .u64 (b - 48)] W fun e w' => e = .returned (.agg (cs6 (oneL (b - 48).toNat))) ∧ Below W.heap.size W w' := fun W => by
         have c := one_calls (b - 48) W (by omega) (by omega)
         have e : oneL (b - 48).toNat = [(b - 48) % 4294967296, (b - 48) / 4294967296, 0, 0, 0, 0] := by unfold oneL; rw [Int.toNat_of_nonneg (by omega)]
         rw [e]; exact c
        obtain ⟨D, hD⟩ : ∃ D, oneL (b - 48).toNat = D := ⟨_, rfl⟩
        rw [hD] at hDd hone hn2
        clear hD
        have hplus := fun w => plus_calls A D t1 hDd w
        have hPd := plus_dig A D 6
        have hPl := plusR_len A D 6
        obtain ⟨P, hP⟩ : ∃ P, plusR A D 6 = P := ⟨_, rfl⟩
        rw [hP] at hplus hPd hPl hn2
        clear hP
        have f1 : IntKind.u8.wrap (b - 48) = b - 48 := wraps_u8 _ (by omega) (by omega)
        have f2 : IntKind.u64.wrap (b - 48) = b - 48 := wraps_u64 _ (by omega) (by omega)
        have HVL := Aside0.mk hVl
        have HPL := Aside0.mk hPl
        clear hVl hPl t2
        have u0 : wr.cell? ⟨gW, 0, none⟩ = some (.int .u64 (List.getD V 0 0)) := (blk_cell BKW.out 0).trans rfl
        have u1 : wr.cell? ⟨gW, 1, none⟩ = some (.int .u64 (List.getD V 1 0)) := (blk_cell BKW.out 1).trans rfl
        have u2 : wr.cell? ⟨gW, 2, none⟩ = some (.int .u64 (List.getD V 2 0)) := (blk_cell BKW.out 2).trans rfl
        have u3 : wr.cell? ⟨gW, 3, none⟩ = some (.int .u64 (List.getD V 3 0)) := (blk_cell BKW.out 3).trans rfl
        have u4 : wr.cell? ⟨gW, 4, none⟩ = some (.int .u64 (List.getD V 4 0)) := (blk_cell BKW.out 4).trans rfl
        have u5 : wr.cell? ⟨gW, 5, none⟩ = some (.int .u64 (List.getD V 5 0)) := (blk_cell BKW.out 5).trans rfl
        have uf0 := blk_frozen BKW.out 0
        have uf1 := blk_frozen BKW.out 1
        have uf2 := blk_frozen BKW.out 2
        have uf3 := blk_frozen BKW.out 3
        have uf4 := blk_frozen BKW.out 4
        have uf5 := blk_frozen BKW.out 5
        go_wp2_with (first | ((with_reducible refine gate_callee (f := 72) rfl ?_); refine goesL_ (some 48) rfl rfl Tryz.func72 (by kernel_rfl) rfl #[.agg (cs6 V), .int .u64 10] rfl (by (try simp only [List.map_toArray, List.map_cons, List.map_nil]); first | done | rfl) ?_; (refine (htimes _).mono ?_); rintro e w1 ⟨rfl, hb⟩; refine ⟨_, rfl, ?_⟩; clear u0 uf0 u1 uf1 u2 uf2 u3 uf3 u4 uf4 u5 uf5; have n0_ := Aside0.mk (blk_below (by (repeat (first | exact BKW.out | refine blk_drewN ?_ _ | refine blk_drew ?_ | refine blk_alloc ?_ _))) hb); have n2_ := Aside0.mk (below_step (by repeat (first | (with_reducible first | exact HB.out | apply below_alloc | apply below_drew | apply pw_below_drewN | apply below_drew1) | exact HB.out)) hb); clear BKW HB; have BKW := n0_; have HB := n2_; clear n0_ n2_; clear hb; have u0 : w1.cell? ⟨gW, 0, none⟩ = some (.int .u64 (List.getD V 0 0)) := (blk_cell BKW.out 0).trans rfl; have u1 : w1.cell? ⟨gW, 1, none⟩ = some (.int .u64 (List.getD V 1 0)) := (blk_cell BKW.out 1).trans rfl; have u2 : w1.cell? ⟨gW, 2, none⟩ = some (.int .u64 (List.getD V 2 0)) := (blk_cell BKW.out 2).trans rfl; have u3 : w1.cell? ⟨gW, 3, none⟩ = some (.int .u64 (List.getD V 3 0)) := (blk_cell BKW.out 3).trans rfl; have u4 : w1.cell? ⟨gW, 4, none⟩ = some (.int .u64 (List.getD V 4 0)) := (blk_cell BKW.out 4).trans rfl; have u5 : w1.cell? ⟨gW, 5, none⟩ = some (.int .u64 (List.getD V 5 0)) := (blk_cell BKW.out 5).trans rfl; have uf0 := blk_frozen BKW.out 0; have uf1 := blk_frozen BKW.out 1; have uf2 := blk_frozen BKW.out 2; have uf3 := blk_frozen BKW.out 3; have uf4 := blk_frozen BKW.out 4; have uf5 := blk_frozen BKW.out 5))
        generalize hW : World.setCell _ ⟨gW, 5, none⟩ _ = wS
        have n0_ : Aside0 (wS.heap[gW]? = some (.cells (cs6 A) 91 (0, 0))) := ⟨by rw [← hW]; exact put6 BKW.out A⟩
        have n3_ : Aside0 (Below w.heap.size w wS) := ⟨by rw [← hW]; exact bel6 HB.out GEW.out _ _ _ _ _ _⟩
        clear u0 uf0 u1 uf1 u2 uf2 u3 uf3 u4 uf4 u5 uf5
        clear BKW HB hW
        have BKW := n0_
        have HB := n3_
        clear n0_ n3_
        have u0 : wS.cell? ⟨gW, 0, none⟩ = some (.int .u64 (List.getD A 0 0)) := (blk_cell BKW.out 0).trans rfl
        have u1 : wS.cell? ⟨gW, 1, none⟩ = some (.int .u64 (List.getD A 1 0)) := (blk_cell BKW.out 1).trans rfl
        have u2 : wS.cell? ⟨gW, 2, none⟩ = some (.int .u64 (List.getD A 2 0)) := (blk_cell BKW.out 2).trans rfl
        have u3 : wS.cell? ⟨gW, 3, none⟩ = some (.int .u64 (List.getD A 3 0)) := (blk_cell BKW.out 3).trans rfl
        have u4 : wS.cell? ⟨gW, 4, none⟩ = some (.int .u64 (List.getD A 4 0)) := (blk_cell BKW.out 4).trans rfl
        have u5 : wS.cell? ⟨gW, 5, none⟩ = some (.int .u64 (List.getD A 5 0)) := (blk_cell BKW.out 5).trans rfl
        have uf0 := blk_frozen BKW.out 0
        have uf1 := blk_frozen BKW.out 1
        have uf2 := blk_frozen BKW.out 2
        have uf3 := blk_frozen BKW.out 3
        have uf4 := blk_frozen BKW.out 4
        have uf5 := blk_frozen BKW.out 5
        have HHB := Aside0.mk (And.intro hx hr)
        by_cases cz : P.getD 3 0 = 0
        ·have z1 : (P.getD 3 0 == 0) = true := beq_iff_eq.2 cz
         have z2 : decide (P.getD 3 0 = 0) = true := decide_eq_true cz
         have CZ := Aside0.mk cz
         clear cz z1 z2
         go_region_with (first | (go_at_call 74; refine (hone _).mono ?_; rintro e w1 ⟨rfl, hb⟩; clear u0 uf0 u1 uf1 u2 uf2 u3 uf3 u4 uf4 u5 uf5; have n0_ := Aside0.mk (blk_below (by (repeat (first | exact BKW.out | refine blk_drewN ?_ _ | refine blk_drew ?_ | refine blk_alloc ?_ _))) hb); have n2_ := Aside0.mk (below_step (by repeat (first | (with_reducible first | exact HB.out | apply below_alloc | apply below_drew | apply pw_below_drewN | apply below_drew1) | exact HB.out)) hb); clear BKW HB; have BKW := n0_; have HB := n2_; clear n0_ n2_; clear hb; have u0 : w1.cell? ⟨gW, 0, none⟩ = some (.int .u64 (List.getD A 0 0)) := (blk_cell BKW.out 0).trans rfl; have u1 : w1.cell? ⟨gW, 1, none⟩ = some (.int .u64 (List.getD A 1 0)) := (blk_cell BKW.out 1).trans rfl; have u2 : w1.cell? ⟨gW, 2, none⟩ = some (.int .u64 (List.getD A 2 0)) := (blk_cell BKW.out 2).trans rfl; have u3 : w1.cell? ⟨gW, 3, none⟩ = some (.int .u64 (List.getD A 3 0)) := (blk_cell BKW.out 3).trans rfl; have u4 : w1.cell? ⟨gW, 4, none⟩ = some (.int .u64 (List.getD A 4 0)) := (blk_cell BKW.out 4).trans rfl; have u5 : w1.cell? ⟨gW, 5, none⟩ = some (.int .u64 (List.getD A 5 0)) := (blk_cell BKW.out 5).trans rfl; have uf0 := blk_frozen BKW.out 0; have uf1 := blk_frozen BKW.out 1; have uf2 := blk_frozen BKW.out 2; have uf3 := blk_frozen BKW.out 3; have uf4 := blk_frozen BKW.out 4; have uf5 := blk_frozen BKW.out 5) | (go_at_call 73; refine (hplus _).mono ?_; rintro e w2 ⟨rfl, hb⟩; clear u0 uf0 u1 uf1 u2 uf2 u3 uf3 u4 uf4 u5 uf5; have n0_ := Aside0.mk (blk_below (by (repeat (first | exact BKW.out | refine blk_drewN ?_ _ | refine blk_drew ?_ | refine blk_alloc ?_ _))) hb); have n2_ := Aside0.mk (below_step (by repeat (first | (with_reducible first | exact HB.out | apply below_alloc | apply below_drew | apply pw_below_drewN | apply below_drew1) | exact HB.out)) hb); clear BKW HB; have BKW := n0_; have HB := n2_; clear n0_ n2_; clear hb; have u0 : w2.cell? ⟨gW, 0, none⟩ = some (.int .u64 (List.getD A 0 0)) := (blk_cell BKW.out 0).trans rfl; have u1 : w2.cell? ⟨gW, 1, none⟩ = some (.int .u64 (List.getD A 1 0)) := (blk_cell BKW.out 1).trans rfl; have u2 : w2.cell? ⟨gW, 2, none⟩ = some (.int .u64 (List.getD A 2 0)) := (blk_cell BKW.out 2).trans rfl; have u3 : w2.cell? ⟨gW, 3, none⟩ = some (.int .u64 (List.getD A 3 0)) := (blk_cell BKW.out 3).trans rfl; have u4 : w2.cell? ⟨gW, 4, none⟩ = some (.int .u64 (List.getD A 4 0)) := (blk_cell BKW.out 4).trans rfl; have u5 : w2.cell? ⟨gW, 5, none⟩ = some (.int .u64 (List.getD A 5 0)) := (blk_cell BKW.out 5).trans rfl; have uf0 := blk_frozen BKW.out 0; have uf1 := blk_frozen BKW.out 1; have uf2 := blk_frozen BKW.out 2; have uf3 := blk_frozen BKW.out 3; have uf4 := blk_frozen BKW.out 4; have uf5 := blk_frozen BKW.out 5))
         all_goals (
          generalize hW : World.setCell _ ⟨gW, 5, none⟩ _ = wT
          have n0_ : Aside0 (wT.heap[gW]? = some (.cells (cs6 P) 91 (0, 0))) := ⟨by rw [← hW]; exact put6 (by (repeat (first | exact BKW.out | refine blk_drewN ?_ _ | refine blk_drew ?_ | refine blk_alloc ?_ _))) P⟩
          have n3_ : Aside0 (Below w.heap.size w wT) := ⟨by rw [← hW]; exact bel6 (by repeat (first | (with_reducible first | exact HB.out | apply below_alloc | apply below_drew | apply pw_below_drewN | apply below_drew1) | exact HB.out)) GEW.out _ _ _ _ _ _⟩
          clear u0 uf0 u1 uf1 u2 uf2 u3 uf3 u4 uf4 u5 uf5
          clear BKW HB hW
          have BKW := n0_
          have HB := n3_
          clear n0_ n3_
          have u0 : wT.cell? ⟨gW, 0, none⟩ = some (.int .u64 (List.getD P 0 0)) := (blk_cell BKW.out 0).trans rfl
          have u1 : wT.cell? ⟨gW, 1, none⟩ = some (.int .u64 (List.getD P 1 0)) := (blk_cell BKW.out 1).trans rfl
          have u2 : wT.cell? ⟨gW, 2, none⟩ = some (.int .u64 (List.getD P 2 0)) := (blk_cell BKW.out 2).trans rfl
          have u3 : wT.cell? ⟨gW, 3, none⟩ = some (.int .u64 (List.getD P 3 0)) := (blk_cell BKW.out 3).trans rfl
          have u4 : wT.cell? ⟨gW, 4, none⟩ = some (.int .u64 (List.getD P 4 0)) := (blk_cell BKW.out 4).trans rfl
          have u5 : wT.cell? ⟨gW, 5, none⟩ = some (.int .u64 (List.getD P 5 0)) := (blk_cell BKW.out 5).trans rfl
          have uf0 := blk_frozen BKW.out 0
          have uf1 := blk_frozen BKW.out 1
          have uf2 := blk_frozen BKW.out 2
          have uf3 := blk_frozen BKW.out 3
          have uf4 := blk_frozen BKW.out 4
          have uf5 := blk_frozen BKW.out 5
          rw [CZ.out] at u3
          go_wp2
          go_roundg k2
          (case measure => omega)
          (case rel => exact ⟨i + 1, P, pt, by simp, rfl, by omega, by omega, ⟨by rw [hn2.out]; unfold normW; rw [if_pos CZ.out]⟩, hPd, HPL.out, fun j h => Nat.lt_succ_of_lt (hpt j h), BKW, HB⟩))
        ·have z1 : (P.getD 3 0 == 0) = false := beq_eq_false_iff_ne.2 cz
         have CZ := Aside0.mk cz
         clear cz z1
         go_region_with (first | (go_at_call 74; refine (hone _).mono ?_; rintro e w1 ⟨rfl, hb⟩; clear u0 uf0 u1 uf1 u2 uf2 u3 uf3 u4 uf4 u5 uf5; have n0_ := Aside0.mk (blk_below (by (repeat (first | exact BKW.out | refine blk_drewN ?_ _ | refine blk_drew ?_ | refine blk_alloc ?_ _))) hb); have n2_ := Aside0.mk (below_step (by repeat (first | (with_reducible first | exact HB.out | apply below_alloc | apply below_drew | apply pw_below_drewN | apply below_drew1) | exact HB.out)) hb); clear BKW HB; have BKW := n0_; have HB := n2_; clear n0_ n2_; clear hb; have u0 : w1.cell? ⟨gW, 0, none⟩ = some (.int .u64 (List.getD A 0 0)) := (blk_cell BKW.out 0).trans rfl; have u1 : w1.cell? ⟨gW, 1, none⟩ = some (.int .u64 (List.getD A 1 0)) := (blk_cell BKW.out 1).trans rfl; have u2 : w1.cell? ⟨gW, 2, none⟩ = some (.int .u64 (List.getD A 2 0)) := (blk_cell BKW.out 2).trans rfl; have u3 : w1.cell? ⟨gW, 3, none⟩ = some (.int .u64 (List.getD A 3 0)) := (blk_cell BKW.out 3).trans rfl; have u4 : w1.cell? ⟨gW, 4, none⟩ = some (.int .u64 (List.getD A 4 0)) := (blk_cell BKW.out 4).trans rfl; have u5 : w1.cell? ⟨gW, 5, none⟩ = some (.int .u64 (List.getD A 5 0)) := (blk_cell BKW.out 5).trans rfl; have uf0 := blk_frozen BKW.out 0; have uf1 := blk_frozen BKW.out 1; have uf2 := blk_frozen BKW.out 2; have uf3 := blk_frozen BKW.out 3; have uf4 := blk_frozen BKW.out 4; have uf5 := blk_frozen BKW.out 5) | (go_at_call 73; refine (hplus _).mono ?_; rintro e w2 ⟨rfl, hb⟩; clear u0 uf0 u1 uf1 u2 uf2 u3 uf3 u4 uf4 u5 uf5; have n0_ := Aside0.mk (blk_below (by (repeat (first | exact BKW.out | refine blk_drewN ?_ _ | refine blk_drew ?_ | refine blk_alloc ?_ _))) hb); have n2_ := Aside0.mk (below_step (by repeat (first | (with_reducible first | exact HB.out | apply below_alloc | apply below_drew | apply pw_below_drewN | apply below_drew1) | exact HB.out)) hb); clear BKW HB; have BKW := n0_; have HB := n2_; clear n0_ n2_; clear hb; have u0 : w2.cell? ⟨gW, 0, none⟩ = some (.int .u64 (List.getD A 0 0)) := (blk_cell BKW.out 0).trans rfl; have u1 : w2.cell? ⟨gW, 1, none⟩ = some (.int .u64 (List.getD A 1 0)) := (blk_cell BKW.out 1).trans rfl; have u2 : w2.cell? ⟨gW, 2, none⟩ = some (.int .u64 (List.getD A 2 0)) := (blk_cell BKW.out 2).trans rfl; have u3 : w2.cell? ⟨gW, 3, none⟩ = some (.int .u64 (List.getD A 3 0)) := (blk_cell BKW.out 3).trans rfl; have u4 : w2.cell? ⟨gW, 4, none⟩ = some (.int .u64 (List.getD A 4 0)) := (blk_cell BKW.out 4).trans rfl; have u5 : w2.cell? ⟨gW, 5, none⟩ = some (.int .u64 (List.getD A 5 0)) := (blk_cell BKW.out 5).trans rfl; have uf0 := blk_frozen BKW.out 0; have uf1 := blk_frozen BKW.out 1; have uf2 := blk_frozen BKW.out 2; have uf3 := blk_frozen BKW.out 3; have uf4 := blk_frozen BKW.out 4; have uf5 := blk_frozen BKW.out 5))
         all_goals (
          generalize hW : World.setCell _ ⟨gW, 5, none⟩ _ = wT
          have n0_ : Aside0 (wT.heap[gW]? = some (.cells (cs6 P) 91 (0, 0))) := ⟨by rw [← hW]; exact put6 (by (repeat (first | exact BKW.out | refine blk_drewN ?_ _ | refine blk_drew ?_ | refine blk_alloc ?_ _))) P⟩
          have n3_ : Aside0 (Below w.heap.size w wT) := ⟨by rw [← hW]; exact bel6 (by repeat (first | (with_reducible first | exact HB.out | apply below_alloc | apply below_drew | apply pw_below_drewN | apply below_drew1) | exact HB.out)) GEW.out _ _ _ _ _ _⟩
          clear u0 uf0 u1 uf1 u2 uf2 u3 uf3 u4 uf4 u5 uf5
          clear BKW HB hW
          have BKW := n0_
          have HB := n3_
          clear n0_ n3_
          have u0 : wT.cell? ⟨gW, 0, none⟩ = some (.int .u64 (List.getD P 0 0)) := (blk_cell BKW.out 0).trans rfl
          have u1 : wT.cell? ⟨gW, 1, none⟩ = some (.int .u64 (List.getD P 1 0)) := (blk_cell BKW.out 1).trans rfl
          have u2 : wT.cell? ⟨gW, 2, none⟩ = some (.int .u64 (List.getD P 2 0)) := (blk_cell BKW.out 2).trans rfl
          have u3 : wT.cell? ⟨gW, 3, none⟩ = some (.int .u64 (List.getD P 3 0)) := (blk_cell BKW.out 3).trans rfl
          have u4 : wT.cell? ⟨gW, 4, none⟩ = some (.int .u64 (List.getD P 4 0)) := (blk_cell BKW.out 4).trans rfl
          have u5 : wT.cell? ⟨gW, 5, none⟩ = some (.int .u64 (List.getD P 5 0)) := (blk_cell BKW.out 5).trans rfl
          have uf0 := blk_frozen BKW.out 0
          have uf1 := blk_frozen BKW.out 1
          have uf2 := blk_frozen BKW.out 2
          have uf3 := blk_frozen BKW.out 3
          have uf4 := blk_frozen BKW.out 4
          have uf5 := blk_frozen BKW.out 5
          obtain ⟨z3, hz3⟩ : ∃ z, P.getD 3 0 = z := ⟨_, rfl⟩
          rw [hz3] at u3
          have y1 : (z3 == 0) = false := beq_eq_false_iff_ne.2 (fun h => CZ.out (hz3.trans h))
          have y2 : decide (z3 = 0) = false := decide_eq_false (fun h => CZ.out (hz3.trans h))
          have y3 : ¬ z3 = 0 := fun h => CZ.out (hz3.trans h)
          clear hz3
          have BK3 : Aside0 ((((wT.setCell ⟨gW, 4, none⟩ (.int .u64 0)).setCell ⟨gW, 5, none⟩ (.int .u64 0)).setCell ⟨gW, 3, none⟩ (.int .u64 1)).heap[gW]? = some (.cells (cs6 (((P.set 4 0).set 5 0).set 3 1)) 91 (0, 0))) := ⟨blk_put (blk_put (blk_put BKW.out 4 _ (cs6_set P 4 0 (by decide) HPL.out)) 5 _ (cs6_set _ 5 0 (by decide) (by rw [List.length_set]; exact HPL.out))) 3 _ (cs6_set _ 3 1 (by decide) (by rw [List.length_set, List.length_set]; exact HPL.out))⟩
          have HB3 : Aside0 (Below w.heap.size w (((wT.setCell ⟨gW, 4, none⟩ (.int .u64 0)).setCell ⟨gW, 5, none⟩ (.int .u64 0)).setCell ⟨gW, 3, none⟩ (.int .u64 1))) := ⟨below_set (below_set (below_set HB.out GEW.out) GEW.out) GEW.out⟩
          have HD3 := Aside0.mk (norm_dig P hPd)
          have HL3 := Aside0.mk (norm_len P HPL.out)
          have HN3 : Aside0 (normW P = ((P.set 4 0).set 5 0).set 3 1) := ⟨by unfold normW; rw [if_neg CZ.out]⟩
          go_wp2
          go_roundg k2
          (case measure => omega)
          (case rel => exact ⟨i + 1, normW P, pt, by simp, rfl, by omega, by omega, hn2, HD3.out, HL3.out, fun j h => Nat.lt_succ_of_lt (hpt j h), by rw [HN3.out]; exact BK3, HB3⟩))
    ·obtain rfl : i = y.size := by omega
     have q3 : decide (((y.size : Nat) : Int) < (y.size : Int)) = false := decide_eq_false (by omega)
     have hend : endP T y neg = (R1, R2) := HRES.out
     unfold endP at hend
     rw [HP.out] at hend
     have HVL := Aside0.mk hVl
     have HVD := Aside0.mk hV
     clear hVl hV HP
     cases pt with
     | none =>
      dsimp only at hend
      have p0 : ptI none = -1 := rfl
      have hx0 : ∀ h : 0 < y.size, ((y[0]'h).toNat : Int) = bt y 0 := fun h => bt_at y 0 h
      by_cases c0 : y.size = 0
      ·rw [if_pos (.inl c0)] at hend
       injection hend with hR1 hR2
       subst hR1 hR2
       have c7 : y.toList = [] := (tl_nil y).2 c0
       have c7b0 : (y.toList == ([] : List UInt8)) = true := beq_iff_eq.mpr c7
       have c7b1 : (y.toList != ([] : List UInt8)) = false := bne_eq_false_iff_eq.mpr c7
       have c7be : y.toList.isEmpty = true := List.isEmpty_iff.mpr c7
       clear c0
       go_wp2
       go_ret2
       exact ⟨by first | rfl | (simp; done), HB.out⟩
      ·have c7 : ¬ y.toList = [] := fun h => c0 ((tl_nil y).1 h)
       have c7b0 : (y.toList == ([] : List UInt8)) = false := beq_eq_false_iff_ne.mpr c7
       have c7b1 : (y.toList != ([] : List UInt8)) = true := bne_iff_ne.mpr c7
       have c7be : y.toList.isEmpty = false := List.isEmpty_eq_false_iff.mpr c7
       by_cases c1 : 1 < y.size
       ·have s1 : decide ((1 : Int) < (y.size : Int)) = true := decide_eq_true (by omega)
        have s2 : (0 < y.size) = True := eq_true (by omega)
        by_cases c2 : bt y 0 = 48
        ·rw [if_pos (.inr ⟨c1, c2⟩)] at hend
         injection hend with hR1 hR2
         subst hR1 hR2
         have s3 : (bt y 0 == 48) = true := beq_iff_eq.2 c2
         have s4 : decide (bt y 0 = 48) = true := decide_eq_true c2
         clear c2
         go_wp2
         go_ret2
         exact ⟨by first | rfl | (simp; done), HB.out⟩
        ·rw [if_neg (by rintro (h | h); exact c0 h; exact c2 h.2)] at hend
         have HEND := Aside0.mk hend
         have s3 : (bt y 0 == 48) = false := beq_eq_false_iff_ne.2 c2
         have s4 : decide (bt y 0 = 48) = false := decide_eq_false c2
         clear hend c2
         have hdig := tpow_ok T HT.out V HVD.out HVL.out
         have HD := Aside0.mk hdig
         clear hdig
         go_wp2
         go_loopg [10] 10 (fun kq v10 w' => ∃ m : Nat, v10 = .int .i64 (m : Int) ∧ 0 ≤ m ∧ m ≤ 4 ∧ 4 - m < kq ∧ Aside0 (w'.heap[gW]? = some (.cells (cs6 (tpow T V (m - 0))) 91 (0, 0))) ∧ Aside0 (Below w.heap.size w w'))
         case atStart => exact ⟨0, rfl, Nat.le_refl _, by omega, by omega, by rw [Nat.sub_self]; exact BKW, HB⟩
         case round =>
          clear BKW HB
          obtain ⟨m, rfl, hm1, hm2, hmk, BKW, HB⟩ := hrel
          obtain ⟨X, hX⟩ : ∃ X, tpow T V (m - 0) = X := ⟨_, rfl⟩
          obtain ⟨hXd, hXl⟩ := HD.out (m - 0)
          rw [hX] at hXd hXl BKW
          have HXL := Aside0.mk hXl
          clear hXl
          cases gk with
          | zero => omega
          | succ k3 =>
           by_cases cm : m < 4
           ·have m1 : decide ((m : Int) < 4) = true := decide_eq_true (by omega)
            have m2 : IntKind.i64.wrap ((m : Int) + 1) = (m : Int) + 1 := by rw [IntKind.wrap_i64]; omega
            have htimes := fun w => HC.out X w hXd HXL.out
            have hnext : Aside0 (tpow T V (m + 1 - 0) = T X) := ⟨by rw [show m + 1 - 0 = (m - 0) + 1 by omega]; show T (tpow T V (m - 0)) = T X; rw [hX]⟩
            obtain ⟨A, hA⟩ : ∃ A, T X = A := ⟨_, rfl⟩
            rw [hA] at htimes hnext
            have HX := Aside0.mk hX
            clear hA hX
            have u0 : wr.cell? ⟨gW, 0, none⟩ = some (.int .u64 (List.getD X 0 0)) := (blk_cell BKW.out 0).trans rfl
            have u1 : wr.cell? ⟨gW, 1, none⟩ = some (.int .u64 (List.getD X 1 0)) := (blk_cell BKW.out 1).trans rfl
            have u2 : wr.cell? ⟨gW, 2, none⟩ = some (.int .u64 (List.getD X 2 0)) := (blk_cell BKW.out 2).trans rfl
            have u3 : wr.cell? ⟨gW, 3, none⟩ = some (.int .u64 (List.getD X 3 0)) := (blk_cell BKW.out 3).trans rfl
            have u4 : wr.cell? ⟨gW, 4, none⟩ = some (.int .u64 (List.getD X 4 0)) := (blk_cell BKW.out 4).trans rfl
            have u5 : wr.cell? ⟨gW, 5, none⟩ = some (.int .u64 (List.getD X 5 0)) := (blk_cell BKW.out 5).trans rfl
            have uf0 := blk_frozen BKW.out 0
            have uf1 := blk_frozen BKW.out 1
            have uf2 := blk_frozen BKW.out 2
            have uf3 := blk_frozen BKW.out 3
            have uf4 := blk_frozen BKW.out 4
            have uf5 := blk_frozen BKW.out 5
            go_wp2_with (first | ((with_reducible refine gate_callee (f := 72) rfl ?_); refine goesL_ (some 98) rfl rfl Tryz.func72 (by kernel_rfl) rfl #[.agg (cs6 X), .int .u64 10] rfl (by (try simp only [List.map_toArray, List.map_cons, List.map_nil]); first | done | rfl) ?_; (refine (htimes _).mono ?_); rintro e w1 ⟨rfl, hb⟩; refine ⟨_, rfl, ?_⟩; clear u0 uf0 u1 uf1 u2 uf2 u3 uf3 u4 uf4 u5 uf5; have n0_ := Aside0.mk (blk_below (by (repeat (first | exact BKW.out | refine blk_drewN ?_ _ | refine blk_drew ?_ | refine blk_alloc ?_ _))) hb); have n2_ := Aside0.mk (below_step (by repeat (first | (with_reducible first | exact HB.out | apply below_alloc | apply below_drew | apply pw_below_drewN | apply below_drew1) | exact HB.out)) hb); clear BKW HB; have BKW := n0_; have HB := n2_; clear n0_ n2_; clear hb; have u0 : w1.cell? ⟨gW, 0, none⟩ = some (.int .u64 (List.getD X 0 0)) := (blk_cell BKW.out 0).trans rfl; have u1 : w1.cell? ⟨gW, 1, none⟩ = some (.int .u64 (List.getD X 1 0)) := (blk_cell BKW.out 1).trans rfl; have u2 : w1.cell? ⟨gW, 2, none⟩ = some (.int .u64 (List.getD X 2 0)) := (blk_cell BKW.out 2).trans rfl; have u3 : w1.cell? ⟨gW, 3, none⟩ = some (.int .u64 (List.getD X 3 0)) := (blk_cell BKW.out 3).trans rfl; have u4 : w1.cell? ⟨gW, 4, none⟩ = some (.int .u64 (List.getD X 4 0)) := (blk_cell BKW.out 4).trans rfl; have u5 : w1.cell? ⟨gW, 5, none⟩ = some (.int .u64 (List.getD X 5 0)) := (blk_cell BKW.out 5).trans rfl; have uf0 := blk_frozen BKW.out 0; have uf1 := blk_frozen BKW.out 1; have uf2 := blk_frozen BKW.out 2; have uf3 := blk_frozen BKW.out 3; have uf4 := blk_frozen BKW.out 4; have uf5 := blk_frozen BKW.out 5))
            go_roundg k3
            case measure => omega
            case rel => exact ⟨m + 1, by simp, by omega, by omega, by omega, ⟨by rw [hnext.out]; exact put6 BKW.out A⟩, ⟨bel6 HB.out GEW.out _ _ _ _ _ _⟩⟩
           ·obtain rfl : m = 4 := by omega
            have m1 : decide (((4 : Nat) : Int) < 4) = false := by decide
            have hfin : fixL X neg = (R1, R2) := by rw [← hX]; exact HEND.out
            have hfix := fun w => fix_calls X neg hXd w
            rw [hfin] at hfix
            have HX := Aside0.mk hX
            clear hX hfin
            have u0 : wr.cell? ⟨gW, 0, none⟩ = some (.int .u64 (List.getD X 0 0)) := (blk_cell BKW.out 0).trans rfl
            have u1 : wr.cell? ⟨gW, 1, none⟩ = some (.int .u64 (List.getD X 1 0)) := (blk_cell BKW.out 1).trans rfl
            have u2 : wr.cell? ⟨gW, 2, none⟩ = some (.int .u64 (List.getD X 2 0)) := (blk_cell BKW.out 2).trans rfl
            have u3 : wr.cell? ⟨gW, 3, none⟩ = some (.int .u64 (List.getD X 3 0)) := (blk_cell BKW.out 3).trans rfl
            have u4 : wr.cell? ⟨gW, 4, none⟩ = some (.int .u64 (List.getD X 4 0)) := (blk_cell BKW.out 4).trans rfl
            have u5 : wr.cell? ⟨gW, 5, none⟩ = some (.int .u64 (List.getD X 5 0)) := (blk_cell BKW.out 5).trans rfl
            have uf0 := blk_frozen BKW.out 0
            have uf1 := blk_frozen BKW.out 1
            have uf2 := blk_frozen BKW.out 2
            have uf3 := blk_frozen BKW.out 3
            have uf4 := blk_frozen BKW.out 4
            have uf5 := blk_frozen BKW.out 5
            go_wp2_with (first | ((with_reducible refine gate_callee (f := 75) rfl ?_); refine goesL_ (some 101) rfl rfl Tryz.func75 (by kernel_rfl) rfl #[.agg (cs6 X), .bool neg] rfl (by (try simp only [List.map_toArray, List.map_cons, List.map_nil]); first | done | rfl) ?_; (refine (hfix _).mono ?_); rintro e w1 ⟨rfl, hb⟩; refine ⟨_, rfl, ?_⟩; clear u0 uf0 u1 uf1 u2 uf2 u3 uf3 u4 uf4 u5 uf5; have HB9 := Aside0.mk (below_step HB.out hb)))
            go_ret2
            exact ⟨by first | rfl | (simp; done), HB9.out⟩
       ·have s1 : decide ((1 : Int) < (y.size : Int)) = false := decide_eq_false (by omega)
        rw [if_neg (by rintro (h | h); exact c0 h; exact c1 h.1)] at hend
        have HEND := Aside0.mk hend
        clear hend
        have hdig := tpow_ok T HT.out V HVD.out HVL.out
        have HD := Aside0.mk hdig
        clear hdig
        go_wp2
        go_loopg [10] 10 (fun kq v10 w' => ∃ m : Nat, v10 = .int .i64 (m : Int) ∧ 0 ≤ m ∧ m ≤ 4 ∧ 4 - m < kq ∧ Aside0 (w'.heap[gW]? = some (.cells (cs6 (tpow T V (m - 0))) 91 (0, 0))) ∧ Aside0 (Below w.heap.size w w'))
        case atStart => exact ⟨0, rfl, Nat.le_refl _, by omega, by omega, by rw [Nat.sub_self]; exact BKW, HB⟩
        case round =>
         clear BKW HB
         obtain ⟨m, rfl, hm1, hm2, hmk, BKW, HB⟩ := hrel
         obtain ⟨X, hX⟩ : ∃ X, tpow T V (m - 0) = X := ⟨_, rfl⟩
         obtain ⟨hXd, hXl⟩ := HD.out (m - 0)
         rw [hX] at hXd hXl BKW
         have HXL := Aside0.mk hXl
         clear hXl
         cases gk with
         | zero => omega
         | succ k3 =>
          by_cases cm : m < 4
          ·have m1 : decide ((m : Int) < 4) = true := decide_eq_true (by omega)
           have m2 : IntKind.i64.wrap ((m : Int) + 1) = (m : Int) + 1 := by rw [IntKind.wrap_i64]; omega
           have htimes := fun w => HC.out X w hXd HXL.out
           have hnext : Aside0 (tpow T V (m + 1 - 0) = T X) := ⟨by rw [show m + 1 - 0 = (m - 0) + 1 by omega]; show T (tpow T V (m - 0)) = T X; rw [hX]⟩
           obtain ⟨A, hA⟩ : ∃ A, T X = A := ⟨_, rfl⟩
           rw [hA] at htimes hnext
           have HX := Aside0.mk hX
           clear hA hX
           have u0 : wr.cell? ⟨gW, 0, none⟩ = some (.int .u64 (List.getD X 0 0)) := (blk_cell BKW.out 0).trans rfl
           have u1 : wr.cell? ⟨gW, 1, none⟩ = some (.int .u64 (List.getD X 1 0)) := (blk_cell BKW.out 1).trans rfl
           have u2 : wr.cell? ⟨gW, 2, none⟩ = some (.int .u64 (List.getD X 2 0)) := (blk_cell BKW.out 2).trans rfl
           have u3 : wr.cell? ⟨gW, 3, none⟩ = some (.int .u64 (List.getD X 3 0)) := (blk_cell BKW.out 3).trans rfl
           have u4 : wr.cell? ⟨gW, 4, none⟩ = some (.int .u64 (List.getD X 4 0)) := (blk_cell BKW.out 4).trans rfl
           have u5 : wr.cell? ⟨gW, 5, none⟩ = some (.int .u64 (List.getD X 5 0)) := (blk_cell BKW.out 5).trans rfl
           have uf0 := blk_frozen BKW.out 0
           have uf1 := blk_frozen BKW.out 1
           have uf2 := blk_frozen BKW.out 2
           have uf3 := blk_frozen BKW.out 3
           have uf4 := blk_frozen BKW.out 4
           have uf5 := blk_frozen BKW.out 5
           go_wp2_with (first | ((with_reducible refine gate_callee (f := 72) rfl ?_); refine goesL_ (some 98) rfl rfl Tryz.func72 (by kernel_rfl) rfl #[.agg (cs6 X), .int .u64 10] rfl (by (try simp only [List.map_toArray, List.map_cons, List.map_nil]); first | done | rfl) ?_; (refine (htimes _).mono ?_); rintro e w1 ⟨rfl, hb⟩; refine ⟨_, rfl, ?_⟩; clear u0 uf0 u1 uf1 u2 uf2 u3 uf3 u4 uf4 u5 uf5; have n0_ := Aside0.mk (blk_below (by (repeat (first | exact BKW.out | refine blk_drewN ?_ _ | refine blk_drew ?_ | refine blk_alloc ?_ _))) hb); have n2_ := Aside0.mk (below_step (by repeat (first | (with_reducible first | exact HB.out | apply below_alloc | apply below_drew | apply pw_below_drewN | apply below_drew1) | exact HB.out)) hb); clear BKW HB; have BKW := n0_; have HB := n2_; clear n0_ n2_; clear hb; have u0 : w1.cell? ⟨gW, 0, none⟩ = some (.int .u64 (List.getD X 0 0)) := (blk_cell BKW.out 0).trans rfl; have u1 : w1.cell? ⟨gW, 1, none⟩ = some (.int .u64 (List.getD X 1 0)) := (blk_cell BKW.out 1).trans rfl; have u2 : w1.cell? ⟨gW, 2, none⟩ = some (.int .u64 (List.getD X 2 0)) := (blk_cell BKW.out 2).trans rfl; have u3 : w1.cell? ⟨gW, 3, none⟩ = some (.int .u64 (List.getD X 3 0)) := (blk_cell BKW.out 3).trans rfl; have u4 : w1.cell? ⟨gW, 4, none⟩ = some (.int .u64 (List.getD X 4 0)) := (blk_cell BKW.out 4).trans rfl; have u5 : w1.cell? ⟨gW, 5, none⟩ = some (.int .u64 (List.getD X 5 0)) := (blk_cell BKW.out 5).trans rfl; have uf0 := blk_frozen BKW.out 0; have uf1 := blk_frozen BKW.out 1; have uf2 := blk_frozen BKW.out 2; have uf3 := blk_frozen BKW.out 3; have uf4 := blk_frozen BKW.out 4; have uf5 := blk_frozen BKW.out 5))
           go_roundg k3
           case measure => omega
           case rel => exact ⟨m + 1, by simp, by omega, by omega, by omega, ⟨by rw [hnext.out]; exact put6 BKW.out A⟩, ⟨bel6 HB.out GEW.out _ _ _ _ _ _⟩⟩
          ·obtain rfl : m = 4 := by omega
           have m1 : decide (((4 : Nat) : Int) < 4) = false := by decide
           have hfin : fixL X neg = (R1, R2) := by rw [← hX]; exact HEND.out
           have hfix := fun w => fix_calls X neg hXd w
           rw [hfin] at hfix
           have HX := Aside0.mk hX
           clear hX hfin
           have u0 : wr.cell? ⟨gW, 0, none⟩ = some (.int .u64 (List.getD X 0 0)) := (blk_cell BKW.out 0).trans rfl
           have u1 : wr.cell? ⟨gW, 1, none⟩ = some (.int .u64 (List.getD X 1 0)) := (blk_cell BKW.out 1).trans rfl
           have u2 : wr.cell? ⟨gW, 2, none⟩ = some (.int .u64 (List.getD X 2 0)) := (blk_cell BKW.out 2).trans rfl
           have u3 : wr.cell? ⟨gW, 3, none⟩ = some (.int .u64 (List.getD X 3 0)) := (blk_cell BKW.out 3).trans rfl
           have u4 : wr.cell? ⟨gW, 4, none⟩ = some (.int .u64 (List.getD X 4 0)) := (blk_cell BKW.out 4).trans rfl
           have u5 : wr.cell? ⟨gW, 5, none⟩ = some (.int .u64 (List.getD X 5 0)) := (blk_cell BKW.out 5).trans rfl
           have uf0 := blk_frozen BKW.out 0
           have uf1 := blk_frozen BKW.out 1
           have uf2 := blk_frozen BKW.out 2
           have uf3 := blk_frozen BKW.out 3
           have uf4 := blk_frozen BKW.out 4
           have uf5 := blk_frozen BKW.out 5
           go_wp2_with (first | ((with_reducible refine gate_callee (f := 75) rfl ?_); refine goesL_ (some 101) rfl rfl Tryz.func75 (by kernel_rfl) rfl #[.agg (cs6 X), .bool neg] rfl (by (try simp only [List.map_toArray, List.map_cons, List.map_nil]); first | done | rfl) ?_; (refine (hfix _).mono ?_); rintro e w1 ⟨rfl, hb⟩; refine ⟨_, rfl, ?_⟩; clear u0 uf0 u1 uf1 u2 uf2 u3 uf3 u4 uf4 u5 uf5; have HB9 := Aside0.mk (below_step HB.out hb)))
           go_ret2
           exact ⟨by first | rfl | (simp; done), HB9.out⟩
     | some j =>
      have hj := hpt j rfl
      dsimp only at hend
      have p0 : ptI (some j) = (j : Int) := rfl
      have p1 : decide ((0 : Int) ≤ (j : Int)) = true := decide_eq_true (by omega)
      have p2 : ((j : Int) ≤ (y.size : Int)) = True := eq_true (by omega)
      have p3 : (j ≤ y.size) = True := eq_true (by omega)
      have w1 : wrap64 ((y.size : Int) - (j : Int)) = (y.size : Int) - (j : Int) := by unfold wrap64; omega
      have w2 : wrap64 ((y.size : Int) - (j : Int) - 1) = ((y.size - j - 1 : Nat) : Int) := by unfold wrap64; omega
      obtain ⟨r, hr⟩ : ∃ r, y.size - j - 1 = r := ⟨_, rfl⟩
      rw [hr] at w2 hend
      have w3 : (y.size : Int) - (j : Int) - 1 = (r : Int) := by omega
      by_cases cb : y.size < j + 2 ∨ j + 5 < y.size
      ·rw [if_pos cb] at hend
       injection hend with hR1 hR2
       subst hR1 hR2
       by_cases cb1 : y.size < j + 2
       ·have d1 : decide ((r : Int) < 1) = true := decide_eq_true (by omega)
        have HR := Aside0.mk hr
        clear hr
        go_wp2
        go_ret2
        exact ⟨by first | rfl | (simp; done), HB.out⟩
       ·have d1 : decide ((r : Int) < 1) = false := decide_eq_false (by omega)
        have d2 : decide ((4 : Int) < (r : Int)) = true := decide_eq_true (by omega)
        have HR := Aside0.mk hr
        clear hr
        go_wp2
        go_ret2
        exact ⟨by first | rfl | (simp; done), HB.out⟩
      ·rw [if_neg cb] at hend
       have d1 : decide ((r : Int) < 1) = false := decide_eq_false (by omega)
       have d2 : decide ((4 : Int) < (r : Int)) = false := decide_eq_false (by omega)
       have r4 : r ≤ 4 := by omega
       have HR := Aside0.mk hr
       clear hr cb
       obtain ⟨z, hz⟩ : ∃ z, y.extract 0 j = z := ⟨_, rfl⟩
       have zs : z.size = j := by rw [← hz, ByteArray.size_extract]; omega
       have HX0 : Aside0 (∀ h : 0 < z.size, ((z[0]'h).toNat : Int) = bt y 0) := ⟨by subst hz; intro h; rw [ByteArray.getElem_extract]; exact bt_at y 0 (show 0 < y.size by omega)⟩
       have ZS := Aside0.mk zs
       have hx0 : ∀ h : 0 < z.size, ((z[0]'h).toNat : Int) = bt y 0 := HX0.out
       by_cases c0 : j = 0
       ·rw [if_pos (.inl c0)] at hend
        injection hend with hR1 hR2
        subst hR1 hR2
        have c7 : z.toList = [] := (tl_nil z).2 (ZS.out.trans c0)
        have c7b0 : (z.toList == ([] : List UInt8)) = true := beq_iff_eq.mpr c7
        have c7b1 : (z.toList != ([] : List UInt8)) = false := bne_eq_false_iff_eq.mpr c7
        have c7be : z.toList.isEmpty = true := List.isEmpty_iff.mpr c7
        clear c0
        go_wp2
        go_ret2
        exact ⟨by first | rfl | (simp; done), HB.out⟩
       ·have c7 : ¬ z.toList = [] := fun h => c0 (ZS.out.symm.trans ((tl_nil z).1 h))
        have c7b0 : (z.toList == ([] : List UInt8)) = false := beq_eq_false_iff_ne.mpr c7
        have c7b1 : (z.toList != ([] : List UInt8)) = true := bne_iff_ne.mpr c7
        have c7be : z.toList.isEmpty = false := List.isEmpty_eq_false_iff.mpr c7
        by_cases c1 : 1 < j
        ·have s1 : decide ((1 : Int) < (j : Int)) = true := decide_eq_true (by omega)
         have s2 : (0 < z.size) = True := eq_true (by have := ZS.out; omega)
         by_cases c2 : bt y 0 = 48
         ·rw [if_pos (.inr ⟨c1, c2⟩)] at hend
          injection hend with hR1 hR2
          subst hR1 hR2
          have s3 : (bt y 0 == 48) = true := beq_iff_eq.2 c2
          have s4 : decide (bt y 0 = 48) = true := decide_eq_true c2
          clear c2
          go_wp2
          go_ret2
          exact ⟨by first | rfl | (simp; done), HB.out⟩
         ·rw [if_neg (by rintro (h | h); exact c0 h; exact c2 h.2)] at hend
          have HEND := Aside0.mk hend
          have s3 : (bt y 0 == 48) = false := beq_eq_false_iff_ne.2 c2
          have s4 : decide (bt y 0 = 48) = false := decide_eq_false c2
          clear hend c2
          have hdig := tpow_ok T HT.out V HVD.out HVL.out
          have HD := Aside0.mk hdig
          clear hdig
          go_wp2
          go_loopg [10] 10 (fun kq v10 w' => ∃ m : Nat, v10 = .int .i64 (m : Int) ∧ r ≤ m ∧ m ≤ 4 ∧ 4 - m < kq ∧ Aside0 (w'.heap[gW]? = some (.cells (cs6 (tpow T V (m - r))) 91 (0, 0))) ∧ Aside0 (Below w.heap.size w w'))
          case atStart => exact ⟨r, rfl, Nat.le_refl _, by omega, by omega, by rw [Nat.sub_self]; exact BKW, HB⟩
          case round =>
           clear BKW HB
           obtain ⟨m, rfl, hm1, hm2, hmk, BKW, HB⟩ := hrel
           obtain ⟨X, hX⟩ : ∃ X, tpow T V (m - r) = X := ⟨_, rfl⟩
           obtain ⟨hXd, hXl⟩ := HD.out (m - r)
           rw [hX] at hXd hXl BKW
           have HXL := Aside0.mk hXl
           clear hXl
           cases gk with
           | zero => omega
           | succ k3 =>
            by_cases cm : m < 4
            ·have m1 : decide ((m : Int) < 4) = true := decide_eq_true (by omega)
             have m2 : IntKind.i64.wrap ((m : Int) + 1) = (m : Int) + 1 := by rw [IntKind.wrap_i64]; omega
             have htimes := fun w => HC.out X w hXd HXL.out
             have hnext : Aside0 (tpow T V (m + 1 - r) = T X) := ⟨by rw [show m + 1 - r = (m - r) + 1 by omega]; show T (tpow T V (m - r)) = T X; rw [hX]⟩
             obtain ⟨A, hA⟩ : ∃ A, T X = A := ⟨_, rfl⟩
             rw [hA] at htimes hnext
             have HX := Aside0.mk hX
             clear hA hX
             have u0 : wr.cell? ⟨gW, 0, none⟩ = some (.int .u64 (List.getD X 0 0)) := (blk_cell BKW.out 0).trans rfl
             have u1 : wr.cell? ⟨gW, 1, none⟩ = some (.int .u64 (List.getD X 1 0)) := (blk_cell BKW.out 1).trans rfl
             have u2 : wr.cell? ⟨gW, 2, none⟩ = some (.int .u64 (List.getD X 2 0)) := (blk_cell BKW.out 2).trans rfl
             have u3 : wr.cell? ⟨gW, 3, none⟩ = some (.int .u64 (List.getD X 3 0)) := (blk_cell BKW.out 3).trans rfl
             have u4 : wr.cell? ⟨gW, 4, none⟩ = some (.int .u64 (List.getD X 4 0)) := (blk_cell BKW.out 4).trans rfl
             have u5 : wr.cell? ⟨gW, 5, none⟩ = some (.int .u64 (List.getD X 5 0)) := (blk_cell BKW.out 5).trans rfl
             have uf0 := blk_frozen BKW.out 0
             have uf1 := blk_frozen BKW.out 1
             have uf2 := blk_frozen BKW.out 2
             have uf3 := blk_frozen BKW.out 3
             have uf4 := blk_frozen BKW.out 4
             have uf5 := blk_frozen BKW.out 5
             go_wp2_with (first | ((with_reducible refine gate_callee (f := 72) rfl ?_); refine goesL_ (some 98) rfl rfl Tryz.func72 (by kernel_rfl) rfl #[.agg (cs6 X), .int .u64 10] rfl (by (try simp only [List.map_toArray, List.map_cons, List.map_nil]); first | done | rfl) ?_; (refine (htimes _).mono ?_); rintro e w1 ⟨rfl, hb⟩; refine ⟨_, rfl, ?_⟩; clear u0 uf0 u1 uf1 u2 uf2 u3 uf3 u4 uf4 u5 uf5; have n0_ := Aside0.mk (blk_below (by (repeat (first | exact BKW.out | refine blk_drewN ?_ _ | refine blk_drew ?_ | refine blk_alloc ?_ _))) hb); have n2_ := Aside0.mk (below_step (by repeat (first | (with_reducible first | exact HB.out | apply below_alloc | apply below_drew | apply pw_below_drewN | apply below_drew1) | exact HB.out)) hb); clear BKW HB; have BKW := n0_; have HB := n2_; clear n0_ n2_; clear hb; have u0 : w1.cell? ⟨gW, 0, none⟩ = some (.int .u64 (List.getD X 0 0)) := (blk_cell BKW.out 0).trans rfl; have u1 : w1.cell? ⟨gW, 1, none⟩ = some (.int .u64 (List.getD X 1 0)) := (blk_cell BKW.out 1).trans rfl; have u2 : w1.cell? ⟨gW, 2, none⟩ = some (.int .u64 (List.getD X 2 0)) := (blk_cell BKW.out 2).trans rfl; have u3 : w1.cell? ⟨gW, 3, none⟩ = some (.int .u64 (List.getD X 3 0)) := (blk_cell BKW.out 3).trans rfl; have u4 : w1.cell? ⟨gW, 4, none⟩ = some (.int .u64 (List.getD X 4 0)) := (blk_cell BKW.out 4).trans rfl; have u5 : w1.cell? ⟨gW, 5, none⟩ = some (.int .u64 (List.getD X 5 0)) := (blk_cell BKW.out 5).trans rfl; have uf0 := blk_frozen BKW.out 0; have uf1 := blk_frozen BKW.out 1; have uf2 := blk_frozen BKW.out 2; have uf3 := blk_frozen BKW.out 3; have uf4 := blk_frozen BKW.out 4; have uf5 := blk_frozen BKW.out 5))
             go_roundg k3
             case measure => omega
             case rel => exact ⟨m + 1, by simp, by omega, by omega, by omega, ⟨by rw [hnext.out]; exact put6 BKW.out A⟩, ⟨bel6 HB.out GEW.out _ _ _ _ _ _⟩⟩
            ·obtain rfl : m = 4 := by omega
             have m1 : decide (((4 : Nat) : Int) < 4) = false := by decide
             have hfin : fixL X neg = (R1, R2) := by rw [← hX]; exact HEND.out
             have hfix := fun w => fix_calls X neg hXd w
             rw [hfin] at hfix
             have HX := Aside0.mk hX
             clear hX hfin
             have u0 : wr.cell? ⟨gW, 0, none⟩ = some (.int .u64 (List.getD X 0 0)) := (blk_cell BKW.out 0).trans rfl
             have u1 : wr.cell? ⟨gW, 1, none⟩ = some (.int .u64 (List.getD X 1 0)) := (blk_cell BKW.out 1).trans rfl
             have u2 : wr.cell? ⟨gW, 2, none⟩ = some (.int .u64 (List.getD X 2 0)) := (blk_cell BKW.out 2).trans rfl
             have u3 : wr.cell? ⟨gW, 3, none⟩ = some (.int .u64 (List.getD X 3 0)) := (blk_cell BKW.out 3).trans rfl
             have u4 : wr.cell? ⟨gW, 4, none⟩ = some (.int .u64 (List.getD X 4 0)) := (blk_cell BKW.out 4).trans rfl
             have u5 : wr.cell? ⟨gW, 5, none⟩ = some (.int .u64 (List.getD X 5 0)) := (blk_cell BKW.out 5).trans rfl
             have uf0 := blk_frozen BKW.out 0
             have uf1 := blk_frozen BKW.out 1
             have uf2 := blk_frozen BKW.out 2
             have uf3 := blk_frozen BKW.out 3
             have uf4 := blk_frozen BKW.out 4
             have uf5 := blk_frozen BKW.out 5
             go_wp2_with (first | ((with_reducible refine gate_callee (f := 75) rfl ?_); refine goesL_ (some 101) rfl rfl Tryz.func75 (by kernel_rfl) rfl #[.agg (cs6 X), .bool neg] rfl (by (try simp only [List.map_toArray, List.map_cons, List.map_nil]); first | done | rfl) ?_; (refine (hfix _).mono ?_); rintro e w1 ⟨rfl, hb⟩; refine ⟨_, rfl, ?_⟩; clear u0 uf0 u1 uf1 u2 uf2 u3 uf3 u4 uf4 u5 uf5; have HB9 := Aside0.mk (below_step HB.out hb)))
             go_ret2
             exact ⟨by first | rfl | (simp; done), HB9.out⟩
        ·have s1 : decide ((1 : Int) < (j : Int)) = false := decide_eq_false (by omega)
         rw [if_neg (by rintro (h | h); exact c0 h; exact c1 h.1)] at hend
         have HEND := Aside0.mk hend
         clear hend
         have hdig := tpow_ok T HT.out V HVD.out HVL.out
         have HD := Aside0.mk hdig
         clear hdig
         go_wp2
         go_loopg [10] 10 (fun kq v10 w' => ∃ m : Nat, v10 = .int .i64 (m : Int) ∧ r ≤ m ∧ m ≤ 4 ∧ 4 - m < kq ∧ Aside0 (w'.heap[gW]? = some (.cells (cs6 (tpow T V (m - r))) 91 (0, 0))) ∧ Aside0 (Below w.heap.size w w'))
         case atStart => exact ⟨r, rfl, Nat.le_refl _, by omega, by omega, by rw [Nat.sub_self]; exact BKW, HB⟩
         case round =>
          clear BKW HB
          obtain ⟨m, rfl, hm1, hm2, hmk, BKW, HB⟩ := hrel
          obtain ⟨X, hX⟩ : ∃ X, tpow T V (m - r) = X := ⟨_, rfl⟩
          obtain ⟨hXd, hXl⟩ := HD.out (m - r)
          rw [hX] at hXd hXl BKW
          have HXL := Aside0.mk hXl
          clear hXl
          cases gk with
          | zero => omega
          | succ k3 =>
           by_cases cm : m < 4
           ·have m1 : decide ((m : Int) < 4) = true := decide_eq_true (by omega)
            have m2 : IntKind.i64.wrap ((m : Int) + 1) = (m : Int) + 1 := by rw [IntKind.wrap_i64]; omega
            have htimes := fun w => HC.out X w hXd HXL.out
            have hnext : Aside0 (tpow T V (m + 1 - r) = T X) := ⟨by rw [show m + 1 - r = (m - r) + 1 by omega]; show T (tpow T V (m - r)) = T X; rw [hX]⟩
            obtain ⟨A, hA⟩ : ∃ A, T X = A := ⟨_, rfl⟩
            rw [hA] at htimes hnext
            have HX := Aside0.mk hX
            clear hA hX
            have u0 : wr.cell? ⟨gW, 0, none⟩ = some (.int .u64 (List.getD X 0 0)) := (blk_cell BKW.out 0).trans rfl
            have u1 : wr.cell? ⟨gW, 1, none⟩ = some (.int .u64 (List.getD X 1 0)) := (blk_cell BKW.out 1).trans rfl
            have u2 : wr.cell? ⟨gW, 2, none⟩ = some (.int .u64 (List.getD X 2 0)) := (blk_cell BKW.out 2).trans rfl
            have u3 : wr.cell? ⟨gW, 3, none⟩ = some (.int .u64 (List.getD X 3 0)) := (blk_cell BKW.out 3).trans rfl
            have u4 : wr.cell? ⟨gW, 4, none⟩ = some (.int .u64 (List.getD X 4 0)) := (blk_cell BKW.out 4).trans rfl
            have u5 : wr.cell? ⟨gW, 5, none⟩ = some (.int .u64 (List.getD X 5 0)) := (blk_cell BKW.out 5).trans rfl
            have uf0 := blk_frozen BKW.out 0
            have uf1 := blk_frozen BKW.out 1
            have uf2 := blk_frozen BKW.out 2
            have uf3 := blk_frozen BKW.out 3
            have uf4 := blk_frozen BKW.out 4
            have uf5 := blk_frozen BKW.out 5
            go_wp2_with (first | ((with_reducible refine gate_callee (f := 72) rfl ?_); refine goesL_ (some 98) rfl rfl Tryz.func72 (by kernel_rfl) rfl #[.agg (cs6 X), .int .u64 10] rfl (by (try simp only [List.map_toArray, List.map_cons, List.map_nil]); first | done | rfl) ?_; (refine (htimes _).mono ?_); rintro e w1 ⟨rfl, hb⟩; refine ⟨_, rfl, ?_⟩; clear u0 uf0 u1 uf1 u2 uf2 u3 uf3 u4 uf4 u5 uf5; have n0_ := Aside0.mk (blk_below (by (repeat (first | exact BKW.out | refine blk_drewN ?_ _ | refine blk_drew ?_ | refine blk_alloc ?_ _))) hb); have n2_ := Aside0.mk (below_step (by repeat (first | (with_reducible first | exact HB.out | apply below_alloc | apply below_drew | apply pw_below_drewN | apply below_drew1) | exact HB.out)) hb); clear BKW HB; have BKW := n0_; have HB := n2_; clear n0_ n2_; clear hb; have u0 : w1.cell? ⟨gW, 0, none⟩ = some (.int .u64 (List.getD X 0 0)) := (blk_cell BKW.out 0).trans rfl; have u1 : w1.cell? ⟨gW, 1, none⟩ = some (.int .u64 (List.getD X 1 0)) := (blk_cell BKW.out 1).trans rfl; have u2 : w1.cell? ⟨gW, 2, none⟩ = some (.int .u64 (List.getD X 2 0)) := (blk_cell BKW.out 2).trans rfl; have u3 : w1.cell? ⟨gW, 3, none⟩ = some (.int .u64 (List.getD X 3 0)) := (blk_cell BKW.out 3).trans rfl; have u4 : w1.cell? ⟨gW, 4, none⟩ = some (.int .u64 (List.getD X 4 0)) := (blk_cell BKW.out 4).trans rfl; have u5 : w1.cell? ⟨gW, 5, none⟩ = some (.int .u64 (List.getD X 5 0)) := (blk_cell BKW.out 5).trans rfl; have uf0 := blk_frozen BKW.out 0; have uf1 := blk_frozen BKW.out 1; have uf2 := blk_frozen BKW.out 2; have uf3 := blk_frozen BKW.out 3; have uf4 := blk_frozen BKW.out 4; have uf5 := blk_frozen BKW.out 5))
            go_roundg k3
            case measure => omega
            case rel => exact ⟨m + 1, by simp, by omega, by omega, by omega, ⟨by rw [hnext.out]; exact put6 BKW.out A⟩, ⟨bel6 HB.out GEW.out _ _ _ _ _ _⟩⟩
           ·obtain rfl : m = 4 := by omega
            have m1 : decide (((4 : Nat) : Int) < 4) = false := by decide
            have hfin : fixL X neg = (R1, R2) := by rw [← hX]; exact HEND.out
            have hfix := fun w => fix_calls X neg hXd w
            rw [hfin] at hfix
            have HX := Aside0.mk hX
            clear hX hfin
            have u0 : wr.cell? ⟨gW, 0, none⟩ = some (.int .u64 (List.getD X 0 0)) := (blk_cell BKW.out 0).trans rfl
            have u1 : wr.cell? ⟨gW, 1, none⟩ = some (.int .u64 (List.getD X 1 0)) := (blk_cell BKW.out 1).trans rfl
            have u2 : wr.cell? ⟨gW, 2, none⟩ = some (.int .u64 (List.getD X 2 0)) := (blk_cell BKW.out 2).trans rfl
            have u3 : wr.cell? ⟨gW, 3, none⟩ = some (.int .u64 (List.getD X 3 0)) := (blk_cell BKW.out 3).trans rfl
            have u4 : wr.cell? ⟨gW, 4, none⟩ = some (.int .u64 (List.getD X 4 0)) := (blk_cell BKW.out 4).trans rfl
            have u5 : wr.cell? ⟨gW, 5, none⟩ = some (.int .u64 (List.getD X 5 0)) := (blk_cell BKW.out 5).trans rfl
            have uf0 := blk_frozen BKW.out 0
            have uf1 := blk_frozen BKW.out 1
            have uf2 := blk_frozen BKW.out 2
            have uf3 := blk_frozen BKW.out 3
            have uf4 := blk_frozen BKW.out 4
            have uf5 := blk_frozen BKW.out 5
            go_wp2_with (first | ((with_reducible refine gate_callee (f := 75) rfl ?_); refine goesL_ (some 101) rfl rfl Tryz.func75 (by kernel_rfl) rfl #[.agg (cs6 X), .bool neg] rfl (by (try simp only [List.map_toArray, List.map_cons, List.map_nil]); first | done | rfl) ?_; (refine (hfix _).mono ?_); rintro e w1 ⟨rfl, hb⟩; refine ⟨_, rfl, ?_⟩; clear u0 uf0 u1 uf1 u2 uf2 u3 uf3 u4 uf4 u5 uf5; have HB9 := Aside0.mk (below_step HB.out hb)))
            go_ret2
            exact ⟨by first | rfl | (simp; done), HB9.out⟩
end Go.Proofs.YtfnbflhoaemmeaaGreatDoor.Ext
