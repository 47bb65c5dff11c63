/- Number, Text, Truth of a value, on both sides: walks and plain words. Conditions: texts of at most 1000 bytes, int64s. -/
import Derived.Test.YtfnbflhoaemmeaaGreatDoorFixO
import Derived.Test.YtfnbflhoaemmeaaGreatDoorFixX
import Derived.Test.YtfnbflhoaemmeaaGreatDoorVaD
import Derived.Deep.QuietTactic
namespace Go.Proofs.YtfnbflhoaemmeaaGreatDoor.Ext
open Go.RowKit Go.Lib Go.Proofs.YtfnbflhoaemmeaaGreatDoorW.PrintWords Go.Proofs.YtfnbflhoaemmeaaGreatDoor.EFxA Go.Proofs.YtfnbflhoaemmeaaGreatDoor.EFix
set_option linter.unusedVariables false
def ref_Parse.f (a0 : ByteArray) : Option (Int × Bool) := if a0.size ≤ 1000 then some (parseS (by_ a0)) else none
theorem ref_times10 (V : List Int) (w : World) (h : dig6 V) (hl : V.length = 6) : Calls Tryz.prog 72 #[.agg (cs6 V), .int .u64 10] w fun e w' => e = .returned (.agg (cs6 (t10 V))) ∧ Below w.heap.size w w' := times_calls V 10 h (by decide) (by decide) w
theorem ref_Parse.calls (a0 : ByteArray) (r1 : Int) (r2 : Bool) (w : World) (h : ref_Parse.f a0 = some (r1, r2)) :
    Calls Tryz.prog 46 #[.string a0] w fun e w' => e = .returned (.tuple #[.int .i64 r1, .bool r2]) ∧ Below w.heap.size w w' := by
  unfold ref_Parse.f at h
  by_cases hs : a0.size ≤ 1000
  · rw [if_pos hs] at h
    have c := refParse_calls ref_times10 a0 hs w
    rw [Option.some.inj h] at c
    exact c
  · rw [if_neg hs] at h; cases h
def ref_Print.f (a0 : Int) : Option ByteArray := counterpaneref1_Print.f 30 a0
theorem ref_Print.calls (a0 : Int) (r : ByteArray) (w : World) (h : ref_Print.f a0 = some r) :
    Calls Tryz.prog 48 #[.int .i64 a0] w fun e w' => e = .returned (.string r) ∧ Below w.heap.size w w' := counterpaneref1_Print.calls 30 a0 r w h
end Go.Proofs.YtfnbflhoaemmeaaGreatDoor.Ext
namespace Go.Proofs.YtfnbflhoaemmeaaGreatDoor.EVal
open Go.RowKit Go.Lib Go.Proofs.YtfnbflhoaemmeaaGreatDoorW.PrintWords Go.Proofs.YtfnbflhoaemmeaaGreatDoorW.PrintLast Go.Proofs.YtfnbflhoaemmeaaGreatDoor.Ext Go.Proofs.YtfnbflhoaemmeaaGreatDoor.EFxA Go.Proofs.YtfnbflhoaemmeaaGreatDoor.EFix
theorem nat_wf2 {a : Int} (h : (Lit.int .i64 a).wf = true) : -9223372036854775808 ≤ a ∧ a ≤ 9223372036854775807 := by
  simp [Lit.wf, IntKind.min, IntKind.max, IntKind.signed, IntKind.bits] at h
  omega
theorem cut_f (k n : Int) (s : ByteArray) (b : Bool) (e : Int) : ∃ t, counterpanelaw2_Cut.f k n s b e = some (k, n, t, b, e) ∧ t.size ≤ 250 := by
  unfold counterpanelaw2_Cut.f
  by_cases c : (s.size : Int) > 250
  · rw [if_pos c, if_pos (by decide), if_pos (by omega)]
    exact ⟨_, rfl, by rw [ByteArray.size_extract]; omega⟩
  · rw [if_neg c]
    exact ⟨_, rfl, by omega⟩
end Go.Proofs.YtfnbflhoaemmeaaGreatDoor.EVal
namespace Go.Proofs.YtfnbflhoaemmeaaGreatDoor.EVal
open Go.RowKit Go.Lib Go.Proofs.YtfnbflhoaemmeaaGreatDoorW.PrintWords Go.Proofs.YtfnbflhoaemmeaaGreatDoorW.PrintLast Go.Proofs.YtfnbflhoaemmeaaGreatDoorW.PrintMore Go.Proofs.YtfnbflhoaemmeaaGreatDoor.Ext Go.Proofs.YtfnbflhoaemmeaaGreatDoor.EFxA Go.Proofs.YtfnbflhoaemmeaaGreatDoor.EFix
attribute [local go_sem] max2_int min2_int max_two min_two max_three min_three max_four min_four
set_option linter.unusedVariables false
set_option linter.unusedSimpArgs false
def numS (v : V5) : Int × Int := if mayS v = true then (if v.1 = 1 then (v.2.1, 0) else if v.1 = 3 then (if v.2.2.2.1 = true then (10000, 0) else (0, 0)) else if v.1 = 2 then (if (parseS (by_ v.2.2.1)).2 = true then ((parseS (by_ v.2.2.1)).1, 0) else (0, 5)) else if v.1 = 4 then (0, v.2.2.2.2) else (0, 0)) else (0, 5)
def txtS (p : ByteArray) (v : V5) : ByteArray × Int := if mayS v = true then (if v.1 = 1 then (p, 0) else if v.1 = 3 then (if v.2.2.2.1 = true then ((⟨#[84, 82, 85, 69]⟩ : ByteArray), 0) else ((⟨#[70, 65, 76, 83, 69]⟩ : ByteArray), 0)) else if v.1 = 2 then (v.2.2.1, 0) else if v.1 = 4 then ((⟨#[]⟩ : ByteArray), v.2.2.2.2) else ((⟨#[]⟩ : ByteArray), 0)) else ((⟨#[]⟩ : ByteArray), 5)
def truS (v : V5) : Bool × Int := if mayS v = true then (if v.1 = 1 then (v.2.1 != 0, 0) else if v.1 = 3 then (v.2.2.2.1, 0) else if v.1 = 2 then (if v.2.2.1.toList = ([84, 82, 85, 69] : List UInt8) then (true, 0) else if v.2.2.1.toList = ([70, 65, 76, 83, 69] : List UInt8) then (false, 0) else (false, 5)) else if v.1 = 4 then (false, v.2.2.2.2) else (false, 0)) else (false, 5)
theorem wrong_f (k n : Int) (t : ByteArray) (b : Bool) (e : Int) (hs : t.size ≤ 1000) : value_wrong.f k n t b e = some (if mayS (k, n, t, b, e) = true then (if k = 4 then e else 0) else 5) := by
  unfold value_wrong.f
  rw [may_f _ _ _ _ _ (by omega), Option.bind_some]
  split
  · split <;> rfl
  · rfl
theorem number_f (k n : Int) (t : ByteArray) (b : Bool) (e : Int) (hs : t.size ≤ 1000) : value_Number.f k n t b e = some (numS (k, n, t, b, e)) := by
  unfold value_Number.f numS
  rw [wrong_f k n t b e hs, Option.bind_some]
  have hi : fixnum_Int.f 1 = some (10000, true) := by unfold fixnum_Int.f; rw [if_neg (by decide), if_neg (by decide), wr _ (by decide) (by decide)]; rfl
  by_cases g : mayS (k, n, t, b, e) = true
  · rw [if_pos g, if_pos g]
    rcases may_def _ _ _ _ _ g with ⟨d0, d1, d2, d3, d4⟩ | ⟨d0, d2, d3, d4⟩ | ⟨d0, d1, d3, d4, d5⟩ | ⟨d0, d1, d2, d4⟩ | ⟨d0, d1, d2, d3, d4⟩
    · subst d0; simp
    · subst d0; simp
    · subst d0
      simp only [parse_f t (by omega), Option.bind_some]
      simp
      split <;> rfl
    · subst d0
      rw [hi]
      cases b <;> simp
    · subst d0
      have : e > 0 := by omega
      simp [this]
  · rw [if_neg g, if_neg g]; simp
theorem text_f (k n : Int) (t : ByteArray) (b : Bool) (e : Int) (p : ByteArray) (hp : fixnum_Print.f n = some p) (hs : t.size ≤ 1000) : value_Text.f k n t b e = some (txtS p (k, n, t, b, e)) := by
  unfold value_Text.f txtS
  rw [wrong_f k n t b e hs, Option.bind_some, hp]
  by_cases g : mayS (k, n, t, b, e) = true
  · rw [if_pos g, if_pos g]
    rcases may_def _ _ _ _ _ g with ⟨d0, d1, d2, d3, d4⟩ | ⟨d0, d2, d3, d4⟩ | ⟨d0, d1, d3, d4, d5⟩ | ⟨d0, d1, d2, d4⟩ | ⟨d0, d1, d2, d3, d4⟩
    · subst d0
      have := empty_by d2
      subst this
      simp; rfl
    · subst d0; simp
    · subst d0; simp
    · subst d0; cases b <;> simp
    · subst d0
      have : e > 0 := by omega
      simp [this]
  · rw [if_neg g, if_neg g]; simp
set_option maxHeartbeats 8000000 in
set_option maxRecDepth 100000 in
theorem refNumber_calls (k n : Int) (t : ByteArray) (b : Bool) (e : Int) (hs : t.size ≤ 1000) (w : World) :
    Calls Tryz.prog 18 #[.agg #[.int .i64 k, .int .i64 n, .string t, .bool b, .int .i64 e]] w fun e' w' => e' = .returned (.tuple #[.int .i64 (numS (k, n, t, b, e)).1, .int .i64 (numS (k, n, t, b, e)).2]) ∧ Below w.heap.size w w' := by
  have hu24 := Tryz.underlying24
  have HB := Aside0.mk (Below.refl w.heap.size w)
  have hm := refMay_f 20000 k n t b e (by omega) (by omega)
  cases g : mayS (k, n, t, b, e) with
  | false =>
    (try rw [g] at hm)
    have HM := Aside0.mk hm
    have hr : numS (k, n, t, b, e) = (0, 5) := by unfold numS; rw [g, if_neg (by decide)]
    rw [hr]
    clear hm g hr 
    go_enter Tryz.func18, Tryz.ntmps18
    go_wp2_with (first | ((with_reducible refine gate_dst (N := 1) rfl ?_); refine box_event ?hg (N := 1) ?hd (cs := cs5 k n t b e) (t := 24) ?hr ?_; (case hd => rfl); (case hg => rfl); (case hr => first | (go_simp; done) | (go_simp; rfl)); intro gV hg wV hbox hb; have n0_ := Aside0.mk (below_step (by repeat (first | (with_reducible first | exact HB.out | apply bA | apply below_drew | apply bN | apply bD) | exact HB.out)) hb); have n1_ := Aside0.mk hbox; clear HB; have HB := n0_; have BKV := n1_; clear n0_ n1_; clear hb hbox hg; obtain ⟨z0, z1, z2, z3, z4, zf0, zf1, zf2, zf3, zf4⟩ := five BKV.out) | ((with_reducible refine gate_callee (f := 24) rfl ?_); (try (refine gate_guard (by rfl) ?_; dsimp only)); refine goesL_ (some 7) rfl rfl Tryz.func24 (by kernel_rfl) rfl #[.agg #[.int .i64 k, .int .i64 n, .string t, .bool b, .int .i64 e]] rfl (by (try simp only [List.map_toArray, List.map_cons, List.map_nil]); first | done | rfl) ?_; (refine (counterpaneref1_May.calls 20000 k n t b e false _ HM.out).mono ?_); rintro e_ w24 ⟨rfl, hb⟩; refine ⟨_, rfl, ?_⟩; clear z0 zf0 z1 zf1 z2 zf2 z3 zf3 z4 zf4; have m0_ := Aside0.mk (blk_below (by (with_reducible repeat (first | refine blk_drewN ?_ _ | refine blk_drew ?_ | refine blk_alloc ?_ _)); exact BKV.out) hb); have n0_ := Aside0.mk (below_step (by repeat (first | (with_reducible first | exact HB.out | apply bA | apply below_drew | apply bN | apply bD) | exact HB.out)) hb); clear HB BKV; have HB := n0_; have BKV := m0_; clear n0_ m0_; clear hb; obtain ⟨z0, z1, z2, z3, z4, zf0, zf1, zf2, zf3, zf4⟩ := five BKV.out))
    go_ret2
    exact ⟨by first | rfl | (simp; done) | (simp [*]; done), (by repeat (first | (with_reducible first | exact HB.out | apply bA | apply below_drew | apply bN | apply bD) | exact HB.out))⟩
  | true =>
    (try rw [g] at hm)
    have HM := Aside0.mk hm
    clear hm
    have G := Aside0.mk g
    clear g
    obtain ⟨⟨R1, R2⟩, hR⟩ : ∃ q, numS (k, n, t, b, e) = q := ⟨_, rfl⟩
    rw [hR]
    have HR := Aside0.mk hR
    clear hR
    go_enter Tryz.func18, Tryz.ntmps18
    go_upto_region 3 with (first | ((with_reducible refine gate_dst (N := 1) rfl ?_); refine box_event ?hg (N := 1) ?hd (cs := cs5 k n t b e) (t := 24) ?hr ?_; (case hd => rfl); (case hg => rfl); (case hr => first | (go_simp; done) | (go_simp; rfl)); intro gV hg wV hbox hb; have n0_ := Aside0.mk (below_step (by repeat (first | (with_reducible first | exact HB.out | apply bA | apply below_drew | apply bN | apply bD) | exact HB.out)) hb); have n1_ := Aside0.mk hbox; clear HB; have HB := n0_; have BKV := n1_; clear n0_ n1_; clear hb hbox hg; obtain ⟨z0, z1, z2, z3, z4, zf0, zf1, zf2, zf3, zf4⟩ := five BKV.out) | ((with_reducible refine gate_callee (f := 24) rfl ?_); (try (refine gate_guard (by rfl) ?_; dsimp only)); refine goesL_ (some 7) rfl rfl Tryz.func24 (by kernel_rfl) rfl #[.agg #[.int .i64 k, .int .i64 n, .string t, .bool b, .int .i64 e]] rfl (by (try simp only [List.map_toArray, List.map_cons, List.map_nil]); first | done | rfl) ?_; (refine (counterpaneref1_May.calls 20000 k n t b e true _ HM.out).mono ?_); rintro e_ w24 ⟨rfl, hb⟩; refine ⟨_, rfl, ?_⟩; clear z0 zf0 z1 zf1 z2 zf2 z3 zf3 z4 zf4; have m0_ := Aside0.mk (blk_below (by (with_reducible repeat (first | refine blk_drewN ?_ _ | refine blk_drew ?_ | refine blk_alloc ?_ _)); exact BKV.out) hb); have n0_ := Aside0.mk (below_step (by repeat (first | (with_reducible first | exact HB.out | apply bA | apply below_drew | apply bN | apply bD) | exact HB.out)) hb); clear HB BKV; have HB := n0_; have BKV := m0_; clear n0_ m0_; clear hb; obtain ⟨z0, z1, z2, z3, z4, zf0, zf1, zf2, zf3, zf4⟩ := five BKV.out))
    have g := G.out
    clear G
    rcases may_def _ _ _ _ _ g with ⟨d0, d1, d2, d3, d4⟩ | ⟨d0, d2, d3, d4⟩ | ⟨d0, d1, d3, d4, d5⟩ | ⟨d0, d1, d2, d4⟩ | ⟨d0, d1, d2, d3, d4⟩
    · subst d0 d1 d3 d4
      have hr : numS (0, 0, t, false, 0) = (0, 0) := by unfold numS; rw [if_pos g]; rfl
      have h2 := HR.out.symm.trans hr
      obtain ⟨e1, e2⟩ := Prod.mk.inj h2
      clear h2
      clear g hr
      go_wp2
      go_ret2
      exact ⟨by first | rfl | (simp; done) | (simp [*]; done), (by repeat (first | (with_reducible first | exact HB.out | apply bA | apply below_drew | apply bN | apply bD) | exact HB.out))⟩
    · subst d0 d3 d4
      have hr : numS (1, n, t, false, 0) = (n, 0) := by unfold numS; rw [if_pos g]; rfl
      have h2 := HR.out.symm.trans hr
      obtain ⟨e1, e2⟩ := Prod.mk.inj h2
      clear h2
      clear g hr
      go_wp2
      go_ret2
      exact ⟨by first | rfl | (simp; done) | (simp [*]; done), (by repeat (first | (with_reducible first | exact HB.out | apply bA | apply below_drew | apply bN | apply bD) | exact HB.out))⟩
    · subst d0 d1 d3 d4
      have hr : numS (2, 0, t, false, 0) = (if (parseS (by_ t)).2 = true then ((parseS (by_ t)).1, 0) else (0, 5)) := by unfold numS; rw [if_pos g]; rfl
      have h2 := HR.out.symm.trans hr
      have hp : ref_Parse.f t = some (parseS (by_ t)) := by unfold ref_Parse.f; rw [if_pos hs]
      obtain ⟨⟨P1, P2⟩, hP⟩ : ∃ q, parseS (by_ t) = q := ⟨_, rfl⟩
      rw [hP] at hp h2
      have HP := Aside0.mk hp
      clear g hr hp hP d5
      cases P2
      · rw [if_neg (by simp)] at h2
        obtain ⟨e1, e2⟩ := Prod.mk.inj h2
        clear h2
        go_wp2_with (first | ((with_reducible refine gate_callee (f := 46) rfl ?_); (try (refine gate_guard (by rfl) ?_; dsimp only)); refine goesL_ (some 24) rfl rfl Tryz.func46 (by kernel_rfl) rfl #[.string t] rfl (by (try simp only [List.map_toArray, List.map_cons, List.map_nil]); first | done | rfl) ?_; (refine (ref_Parse.calls t P1 false _ HP.out).mono ?_); rintro e_ w46 ⟨rfl, hb⟩; refine ⟨_, rfl, ?_⟩; clear z0 zf0 z1 zf1 z2 zf2 z3 zf3 z4 zf4; have m0_ := Aside0.mk (blk_below (by (with_reducible repeat (first | refine blk_drewN ?_ _ | refine blk_drew ?_ | refine blk_alloc ?_ _)); exact BKV.out) hb); have n0_ := Aside0.mk (below_step (by repeat (first | (with_reducible first | exact HB.out | apply bA | apply below_drew | apply bN | apply bD) | exact HB.out)) hb); clear HB BKV; have HB := n0_; have BKV := m0_; clear n0_ m0_; clear hb; obtain ⟨z0, z1, z2, z3, z4, zf0, zf1, zf2, zf3, zf4⟩ := five BKV.out))
        go_ret2
        exact ⟨by first | rfl | (simp; done) | (simp [*]; done), (by repeat (first | (with_reducible first | exact HB.out | apply bA | apply below_drew | apply bN | apply bD) | exact HB.out))⟩
      · rw [if_pos rfl] at h2
        obtain ⟨e1, e2⟩ := Prod.mk.inj h2
        clear h2
        go_wp2_with (first | ((with_reducible refine gate_callee (f := 46) rfl ?_); (try (refine gate_guard (by rfl) ?_; dsimp only)); refine goesL_ (some 24) rfl rfl Tryz.func46 (by kernel_rfl) rfl #[.string t] rfl (by (try simp only [List.map_toArray, List.map_cons, List.map_nil]); first | done | rfl) ?_; (refine (ref_Parse.calls t P1 true _ HP.out).mono ?_); rintro e_ w46 ⟨rfl, hb⟩; refine ⟨_, rfl, ?_⟩; clear z0 zf0 z1 zf1 z2 zf2 z3 zf3 z4 zf4; have m0_ := Aside0.mk (blk_below (by (with_reducible repeat (first | refine blk_drewN ?_ _ | refine blk_drew ?_ | refine blk_alloc ?_ _)); exact BKV.out) hb); have n0_ := Aside0.mk (below_step (by repeat (first | (with_reducible first | exact HB.out | apply bA | apply below_drew | apply bN | apply bD) | exact HB.out)) hb); clear HB BKV; have HB := n0_; have BKV := m0_; clear n0_ m0_; clear hb; obtain ⟨z0, z1, z2, z3, z4, zf0, zf1, zf2, zf3, zf4⟩ := five BKV.out))
        go_ret2
        exact ⟨by first | rfl | (simp; done) | (simp [*]; done), (by repeat (first | (with_reducible first | exact HB.out | apply bA | apply below_drew | apply bN | apply bD) | exact HB.out))⟩
    · subst d0 d1 d4
      cases b
      · have hr : numS (3, 0, t, false, 0) = (0, 0) := by unfold numS; rw [if_pos g]; rfl
        have h2 := HR.out.symm.trans hr
        obtain ⟨e1, e2⟩ := Prod.mk.inj h2
        clear h2
        clear g hr d2
        go_wp2
        go_ret2
        exact ⟨by first | rfl | (simp; done) | (simp [*]; done), (by repeat (first | (with_reducible first | exact HB.out | apply bA | apply below_drew | apply bN | apply bD) | exact HB.out))⟩
      · have hr : numS (3, 0, t, true, 0) = (10000, 0) := by unfold numS; rw [if_pos g]; rfl
        have h2 := HR.out.symm.trans hr
        obtain ⟨e1, e2⟩ := Prod.mk.inj h2
        clear h2
        clear g hr d2
        go_wp2
        go_ret2
        exact ⟨by first | rfl | (simp; done) | (simp [*]; done), (by repeat (first | (with_reducible first | exact HB.out | apply bA | apply below_drew | apply bN | apply bD) | exact HB.out))⟩
    · subst d0 d1 d3
      have hr : numS (4, 0, t, false, e) = (0, e) := by unfold numS; rw [if_pos g]; rfl
      have h2 := HR.out.symm.trans hr
      obtain ⟨e1, e2⟩ := Prod.mk.inj h2
      clear h2
      clear g hr
      go_wp2
      repeat (go_quiet (fail); try go_wp2)
      go_ret2
      exact ⟨by first | rfl | (simp; done) | (simp [*]; done), (by repeat (first | (with_reducible first | exact HB.out | apply bA | apply below_drew | apply bN | apply bD) | exact HB.out))⟩
set_option maxHeartbeats 8000000 in
set_option maxRecDepth 100000 in
theorem refText_calls (k n : Int) (t : ByteArray) (b : Bool) (e : Int) (hs : t.size ≤ 1000) (p : ByteArray) (hp : ref_Print.f n = some p) (w : World) :
    Calls Tryz.prog 20 #[.agg #[.int .i64 k, .int .i64 n, .string t, .bool b, .int .i64 e]] w fun e' w' => e' = .returned (.tuple #[.string (txtS p (k, n, t, b, e)).1, .int .i64 (txtS p (k, n, t, b, e)).2]) ∧ Below w.heap.size w w' := by
  have hu24 := Tryz.underlying24
  have HB := Aside0.mk (Below.refl w.heap.size w)
  have hm := refMay_f 20000 k n t b e (by omega) (by omega)
  cases g : mayS (k, n, t, b, e) with
  | false =>
    (try rw [g] at hm)
    have HM := Aside0.mk hm
    have hr : txtS p (k, n, t, b, e) = ((⟨#[]⟩ : ByteArray), 5) := by unfold txtS; rw [g, if_neg (by decide)]
    rw [hr]
    clear hm g hr hp
    go_enter Tryz.func20, Tryz.ntmps20
    go_wp2_with (first | ((with_reducible refine gate_dst (N := 1) rfl ?_); refine box_event ?hg (N := 1) ?hd (cs := cs5 k n t b e) (t := 24) ?hr ?_; (case hd => rfl); (case hg => rfl); (case hr => first | (go_simp; done) | (go_simp; rfl)); intro gV hg wV hbox hb; have n0_ := Aside0.mk (below_step (by repeat (first | (with_reducible first | exact HB.out | apply bA | apply below_drew | apply bN | apply bD) | exact HB.out)) hb); have n1_ := Aside0.mk hbox; clear HB; have HB := n0_; have BKV := n1_; clear n0_ n1_; clear hb hbox hg; obtain ⟨z0, z1, z2, z3, z4, zf0, zf1, zf2, zf3, zf4⟩ := five BKV.out) | ((with_reducible refine gate_callee (f := 24) rfl ?_); (try (refine gate_guard (by rfl) ?_; dsimp only)); refine goesL_ (some 5) rfl rfl Tryz.func24 (by kernel_rfl) rfl #[.agg #[.int .i64 k, .int .i64 n, .string t, .bool b, .int .i64 e]] rfl (by (try simp only [List.map_toArray, List.map_cons, List.map_nil]); first | done | rfl) ?_; (refine (counterpaneref1_May.calls 20000 k n t b e false _ HM.out).mono ?_); rintro e_ w24 ⟨rfl, hb⟩; refine ⟨_, rfl, ?_⟩; clear z0 zf0 z1 zf1 z2 zf2 z3 zf3 z4 zf4; have m0_ := Aside0.mk (blk_below (by (with_reducible repeat (first | refine blk_drewN ?_ _ | refine blk_drew ?_ | refine blk_alloc ?_ _)); exact BKV.out) hb); have n0_ := Aside0.mk (below_step (by repeat (first | (with_reducible first | exact HB.out | apply bA | apply below_drew | apply bN | apply bD) | exact HB.out)) hb); clear HB BKV; have HB := n0_; have BKV := m0_; clear n0_ m0_; clear hb; obtain ⟨z0, z1, z2, z3, z4, zf0, zf1, zf2, zf3, zf4⟩ := five BKV.out))
    go_ret2
    exact ⟨by first | rfl | (simp; done) | (simp [*]; done), (by repeat (first | (with_reducible first | exact HB.out | apply bA | apply below_drew | apply bN | apply bD) | exact HB.out))⟩
  | true =>
    (try rw [g] at hm)
    have HM := Aside0.mk hm
    clear hm
    have G := Aside0.mk g
    clear g
    obtain ⟨⟨R1, R2⟩, hR⟩ : ∃ q, txtS p (k, n, t, b, e) = q := ⟨_, rfl⟩
    rw [hR]
    have HR := Aside0.mk hR
    clear hR
    go_enter Tryz.func20, Tryz.ntmps20
    go_upto_region 3 with (first | ((with_reducible refine gate_dst (N := 1) rfl ?_); refine box_event ?hg (N := 1) ?hd (cs := cs5 k n t b e) (t := 24) ?hr ?_; (case hd => rfl); (case hg => rfl); (case hr => first | (go_simp; done) | (go_simp; rfl)); intro gV hg wV hbox hb; have n0_ := Aside0.mk (below_step (by repeat (first | (with_reducible first | exact HB.out | apply bA | apply below_drew | apply bN | apply bD) | exact HB.out)) hb); have n1_ := Aside0.mk hbox; clear HB; have HB := n0_; have BKV := n1_; clear n0_ n1_; clear hb hbox hg; obtain ⟨z0, z1, z2, z3, z4, zf0, zf1, zf2, zf3, zf4⟩ := five BKV.out) | ((with_reducible refine gate_callee (f := 24) rfl ?_); (try (refine gate_guard (by rfl) ?_; dsimp only)); refine goesL_ (some 5) rfl rfl Tryz.func24 (by kernel_rfl) rfl #[.agg #[.int .i64 k, .int .i64 n, .string t, .bool b, .int .i64 e]] rfl (by (try simp only [List.map_toArray, List.map_cons, List.map_nil]); first | done | rfl) ?_; (refine (counterpaneref1_May.calls 20000 k n t b e true _ HM.out).mono ?_); rintro e_ w24 ⟨rfl, hb⟩; refine ⟨_, rfl, ?_⟩; clear z0 zf0 z1 zf1 z2 zf2 z3 zf3 z4 zf4; have m0_ := Aside0.mk (blk_below (by (with_reducible repeat (first | refine blk_drewN ?_ _ | refine blk_drew ?_ | refine blk_alloc ?_ _)); exact BKV.out) hb); have n0_ := Aside0.mk (below_step (by repeat (first | (with_reducible first | exact HB.out | apply bA | apply below_drew | apply bN | apply bD) | exact HB.out)) hb); clear HB BKV; have HB := n0_; have BKV := m0_; clear n0_ m0_; clear hb; obtain ⟨z0, z1, z2, z3, z4, zf0, zf1, zf2, zf3, zf4⟩ := five BKV.out))
    have g := G.out
    clear G
    rcases may_def _ _ _ _ _ g with ⟨d0, d1, d2, d3, d4⟩ | ⟨d0, d2, d3, d4⟩ | ⟨d0, d1, d3, d4, d5⟩ | ⟨d0, d1, d2, d4⟩ | ⟨d0, d1, d2, d3, d4⟩
    · subst d0 d1 d3 d4
      have hr : txtS p (0, 0, t, false, 0) = ((⟨#[]⟩ : ByteArray), 0) := by unfold txtS; rw [if_pos g]; rfl
      have h2 := HR.out.symm.trans hr
      obtain ⟨e1, e2⟩ := Prod.mk.inj h2
      clear h2
      clear g hr hp
      go_wp2
      go_ret2
      exact ⟨by first | rfl | (simp; done) | (simp [*]; done), (by repeat (first | (with_reducible first | exact HB.out | apply bA | apply below_drew | apply bN | apply bD) | exact HB.out))⟩
    · subst d0 d3 d4
      have hr : txtS p (1, n, t, false, 0) = (p, 0) := by unfold txtS; rw [if_pos g]; rfl
      have h2 := HR.out.symm.trans hr
      obtain ⟨e1, e2⟩ := Prod.mk.inj h2
      clear h2
      have HP := Aside0.mk hp
      clear g hr hp
      go_wp2_with (first | ((with_reducible refine gate_callee (f := 48) rfl ?_); (try (refine gate_guard (by rfl) ?_; dsimp only)); refine goesL_ (some 13) rfl rfl Tryz.func48 (by kernel_rfl) rfl #[.int .i64 n] rfl (by (try simp only [List.map_toArray, List.map_cons, List.map_nil]); first | done | rfl) ?_; (refine (ref_Print.calls n p _ HP.out).mono ?_); rintro e_ w48 ⟨rfl, hb⟩; refine ⟨_, rfl, ?_⟩; clear z0 zf0 z1 zf1 z2 zf2 z3 zf3 z4 zf4; have m0_ := Aside0.mk (blk_below (by (with_reducible repeat (first | refine blk_drewN ?_ _ | refine blk_drew ?_ | refine blk_alloc ?_ _)); exact BKV.out) hb); have n0_ := Aside0.mk (below_step (by repeat (first | (with_reducible first | exact HB.out | apply bA | apply below_drew | apply bN | apply bD) | exact HB.out)) hb); clear HB BKV; have HB := n0_; have BKV := m0_; clear n0_ m0_; clear hb; obtain ⟨z0, z1, z2, z3, z4, zf0, zf1, zf2, zf3, zf4⟩ := five BKV.out))
      go_ret2
      exact ⟨by first | rfl | (simp; done) | (simp [*]; done), (by repeat (first | (with_reducible first | exact HB.out | apply bA | apply below_drew | apply bN | apply bD) | exact HB.out))⟩
    · subst d0 d1 d3 d4
      have hr : txtS p (2, 0, t, false, 0) = (t, 0) := by unfold txtS; rw [if_pos g]; rfl
      have h2 := HR.out.symm.trans hr
      obtain ⟨e1, e2⟩ := Prod.mk.inj h2
      clear h2
      clear g hr hp
      go_wp2
      go_ret2
      exact ⟨by first | rfl | (simp; done) | (simp [*]; done), (by repeat (first | (with_reducible first | exact HB.out | apply bA | apply below_drew | apply bN | apply bD) | exact HB.out))⟩
    · subst d0 d1 d4
      cases b
      · have hr : txtS p (3, 0, t, false, 0) = ((⟨#[70, 65, 76, 83, 69]⟩ : ByteArray), 0) := by unfold txtS; rw [if_pos g]; rfl
        have h2 := HR.out.symm.trans hr
        obtain ⟨e1, e2⟩ := Prod.mk.inj h2
        clear h2
        clear g hr hp d2
        go_wp2
        go_ret2
        exact ⟨by first | rfl | (simp; done) | (simp [*]; done), (by repeat (first | (with_reducible first | exact HB.out | apply bA | apply below_drew | apply bN | apply bD) | exact HB.out))⟩
      · have hr : txtS p (3, 0, t, true, 0) = ((⟨#[84, 82, 85, 69]⟩ : ByteArray), 0) := by unfold txtS; rw [if_pos g]; rfl
        have h2 := HR.out.symm.trans hr
        obtain ⟨e1, e2⟩ := Prod.mk.inj h2
        clear h2
        clear g hr hp d2
        go_wp2
        go_ret2
        exact ⟨by first | rfl | (simp; done) | (simp [*]; done), (by repeat (first | (with_reducible first | exact HB.out | apply bA | apply below_drew | apply bN | apply bD) | exact HB.out))⟩
    · subst d0 d1 d3
      have hr : txtS p (4, 0, t, false, e) = ((⟨#[]⟩ : ByteArray), e) := by unfold txtS; rw [if_pos g]; rfl
      have h2 := HR.out.symm.trans hr
      obtain ⟨e1, e2⟩ := Prod.mk.inj h2
      clear h2
      clear g hr hp
      go_wp2
      repeat (go_quiet (fail); try go_wp2)
      go_ret2
      exact ⟨by first | rfl | (simp; done) | (simp [*]; done), (by repeat (first | (with_reducible first | exact HB.out | apply bA | apply below_drew | apply bN | apply bD) | exact HB.out))⟩
set_option maxHeartbeats 8000000 in
set_option maxRecDepth 100000 in
theorem refTruth_calls (k n : Int) (t : ByteArray) (b : Bool) (e : Int) (hs : t.size ≤ 1000) (w : World) :
    Calls Tryz.prog 22 #[.agg #[.int .i64 k, .int .i64 n, .string t, .bool b, .int .i64 e]] w fun e' w' => e' = .returned (.tuple #[.bool (truS (k, n, t, b, e)).1, .int .i64 (truS (k, n, t, b, e)).2]) ∧ Below w.heap.size w w' := by
  have hu24 := Tryz.underlying24
  have HB := Aside0.mk (Below.refl w.heap.size w)
  have hm := refMay_f 20000 k n t b e (by omega) (by omega)
  cases g : mayS (k, n, t, b, e) with
  | false =>
    (try rw [g] at hm)
    have HM := Aside0.mk hm
    have hr : truS (k, n, t, b, e) = (false, 5) := by unfold truS; rw [g, if_neg (by decide)]
    rw [hr]
    clear hm g hr 
    go_enter Tryz.func22, Tryz.ntmps22
    go_wp2_with (first | ((with_reducible refine gate_dst (N := 1) rfl ?_); refine box_event ?hg (N := 1) ?hd (cs := cs5 k n t b e) (t := 24) ?hr ?_; (case hd => rfl); (case hg => rfl); (case hr => first | (go_simp; done) | (go_simp; rfl)); intro gV hg wV hbox hb; have n0_ := Aside0.mk (below_step (by repeat (first | (with_reducible first | exact HB.out | apply bA | apply below_drew | apply bN | apply bD) | exact HB.out)) hb); have n1_ := Aside0.mk hbox; clear HB; have HB := n0_; have BKV := n1_; clear n0_ n1_; clear hb hbox hg; obtain ⟨z0, z1, z2, z3, z4, zf0, zf1, zf2, zf3, zf4⟩ := five BKV.out) | ((with_reducible refine gate_callee (f := 24) rfl ?_); (try (refine gate_guard (by rfl) ?_; dsimp only)); refine goesL_ (some 5) rfl rfl Tryz.func24 (by kernel_rfl) rfl #[.agg #[.int .i64 k, .int .i64 n, .string t, .bool b, .int .i64 e]] rfl (by (try simp only [List.map_toArray, List.map_cons, List.map_nil]); first | done | rfl) ?_; (refine (counterpaneref1_May.calls 20000 k n t b e false _ HM.out).mono ?_); rintro e_ w24 ⟨rfl, hb⟩; refine ⟨_, rfl, ?_⟩; clear z0 zf0 z1 zf1 z2 zf2 z3 zf3 z4 zf4; have m0_ := Aside0.mk (blk_below (by (with_reducible repeat (first | refine blk_drewN ?_ _ | refine blk_drew ?_ | refine blk_alloc ?_ _)); exact BKV.out) hb); have n0_ := Aside0.mk (below_step (by repeat (first | (with_reducible first | exact HB.out | apply bA | apply below_drew | apply bN | apply bD) | exact HB.out)) hb); clear HB BKV; have HB := n0_; have BKV := m0_; clear n0_ m0_; clear hb; obtain ⟨z0, z1, z2, z3, z4, zf0, zf1, zf2, zf3, zf4⟩ := five BKV.out))
    go_ret2
    exact ⟨by first | rfl | (simp; done) | (simp [*]; done), (by repeat (first | (with_reducible first | exact HB.out | apply bA | apply below_drew | apply bN | apply bD) | exact HB.out))⟩
  | true =>
    (try rw [g] at hm)
    have HM := Aside0.mk hm
    clear hm
    have G := Aside0.mk g
    clear g
    obtain ⟨⟨R1, R2⟩, hR⟩ : ∃ q, truS (k, n, t, b, e) = q := ⟨_, rfl⟩
    rw [hR]
    have HR := Aside0.mk hR
    clear hR
    go_enter Tryz.func22, Tryz.ntmps22
    go_upto_region 3 with (first | ((with_reducible refine gate_dst (N := 1) rfl ?_); refine box_event ?hg (N := 1) ?hd (cs := cs5 k n t b e) (t := 24) ?hr ?_; (case hd => rfl); (case hg => rfl); (case hr => first | (go_simp; done) | (go_simp; rfl)); intro gV hg wV hbox hb; have n0_ := Aside0.mk (below_step (by repeat (first | (with_reducible first | exact HB.out | apply bA | apply below_drew | apply bN | apply bD) | exact HB.out)) hb); have n1_ := Aside0.mk hbox; clear HB; have HB := n0_; have BKV := n1_; clear n0_ n1_; clear hb hbox hg; obtain ⟨z0, z1, z2, z3, z4, zf0, zf1, zf2, zf3, zf4⟩ := five BKV.out) | ((with_reducible refine gate_callee (f := 24) rfl ?_); (try (refine gate_guard (by rfl) ?_; dsimp only)); refine goesL_ (some 5) rfl rfl Tryz.func24 (by kernel_rfl) rfl #[.agg #[.int .i64 k, .int .i64 n, .string t, .bool b, .int .i64 e]] rfl (by (try simp only [List.map_toArray, List.map_cons, List.map_nil]); first | done | rfl) ?_; (refine (counterpaneref1_May.calls 20000 k n t b e true _ HM.out).mono ?_); rintro e_ w24 ⟨rfl, hb⟩; refine ⟨_, rfl, ?_⟩; clear z0 zf0 z1 zf1 z2 zf2 z3 zf3 z4 zf4; have m0_ := Aside0.mk (blk_below (by (with_reducible repeat (first | refine blk_drewN ?_ _ | refine blk_drew ?_ | refine blk_alloc ?_ _)); exact BKV.out) hb); have n0_ := Aside0.mk (below_step (by repeat (first | (with_reducible first | exact HB.out | apply bA | apply below_drew | apply bN | apply bD) | exact HB.out)) hb); clear HB BKV; have HB := n0_; have BKV := m0_; clear n0_ m0_; clear hb; obtain ⟨z0, z1, z2, z3, z4, zf0, zf1, zf2, zf3, zf4⟩ := five BKV.out))
    have g := G.out
    clear G
    rcases may_def _ _ _ _ _ g with ⟨d0, d1, d2, d3, d4⟩ | ⟨d0, d2, d3, d4⟩ | ⟨d0, d1, d3, d4, d5⟩ | ⟨d0, d1, d2, d4⟩ | ⟨d0, d1, d2, d3, d4⟩
    · subst d0 d1 d3 d4
      have f1 : (t.toList == ([84, 82, 85, 69] : List UInt8)) = false := by rw [to_by, d2]; rfl
      have hr : truS (0, 0, t, false, 0) = (false, 0) := by unfold truS; rw [if_pos g]; rfl
      have h2 := HR.out.symm.trans hr
      obtain ⟨e1, e2⟩ := Prod.mk.inj h2
      clear h2
      clear g hr d2
      go_wp2
      go_ret2
      exact ⟨by first | rfl | (simp; done) | (simp [*]; done), (by repeat (first | (with_reducible first | exact HB.out | apply bA | apply below_drew | apply bN | apply bD) | exact HB.out))⟩
    · subst d0 d3 d4
      have f1 : (t.toList == ([84, 82, 85, 69] : List UInt8)) = false := by rw [to_by, d2]; rfl
      have hr : truS (1, n, t, false, 0) = (n != 0, 0) := by unfold truS; rw [if_pos g]; rfl
      have h2 := HR.out.symm.trans hr
      obtain ⟨e1, e2⟩ := Prod.mk.inj h2
      clear h2
      clear g hr d2
      by_cases c : n = 0
      · subst c
        have e3 : R1 = false := e1.trans (by decide)
        clear e1
        go_wp2
        go_ret2
        exact ⟨by first | rfl | (simp; done) | (simp [*]; done), (by repeat (first | (with_reducible first | exact HB.out | apply bA | apply below_drew | apply bN | apply bD) | exact HB.out))⟩
      · have c1 : (n != 0) = true := bne_iff_ne.mpr c
        have c2 : (n == 0) = false := beq_eq_false_iff_ne.mpr c
        have c3 : decide (n = 0) = false := decide_eq_false c
        rw [c1] at e1
        go_wp2
        go_ret2
        exact ⟨by first | rfl | (simp; done) | (simp [*]; done), (by repeat (first | (with_reducible first | exact HB.out | apply bA | apply below_drew | apply bN | apply bD) | exact HB.out))⟩
    · subst d0 d1 d3 d4
      by_cases c1 : t.toList = ([84, 82, 85, 69] : List UInt8)
      · have hr : truS (2, 0, t, false, 0) = (true, 0) := by unfold truS; rw [if_pos g]; show (if t.toList = ([84, 82, 85, 69] : List UInt8) then _ else if t.toList = ([70, 65, 76, 83, 69] : List UInt8) then _ else _) = _; rw [if_pos c1]
        obtain ⟨e1, e2⟩ := Prod.mk.inj (HR.out.symm.trans hr)
        have f1 : (t.toList == ([84, 82, 85, 69] : List UInt8)) = true := beq_iff_eq.mpr c1
        clear g hr d5 c1
        go_wp2
        go_ret2
        exact ⟨by first | rfl | (simp; done) | (simp [*]; done), (by repeat (first | (with_reducible first | exact HB.out | apply bA | apply below_drew | apply bN | apply bD) | exact HB.out))⟩
      · by_cases c2 : t.toList = ([70, 65, 76, 83, 69] : List UInt8)
        · have hr : truS (2, 0, t, false, 0) = (false, 0) := by unfold truS; rw [if_pos g]; show (if t.toList = ([84, 82, 85, 69] : List UInt8) then _ else if t.toList = ([70, 65, 76, 83, 69] : List UInt8) then _ else _) = _; rw [if_neg c1, if_pos c2]
          obtain ⟨e1, e2⟩ := Prod.mk.inj (HR.out.symm.trans hr)
          have f1 : (t.toList == ([84, 82, 85, 69] : List UInt8)) = false := beq_eq_false_iff_ne.mpr c1
          have f2 : (t.toList == ([70, 65, 76, 83, 69] : List UInt8)) = true := beq_iff_eq.mpr c2
          clear g hr d5 c1 c2
          go_wp2
          go_ret2
          exact ⟨by first | rfl | (simp; done) | (simp [*]; done), (by repeat (first | (with_reducible first | exact HB.out | apply bA | apply below_drew | apply bN | apply bD) | exact HB.out))⟩
        · have hr : truS (2, 0, t, false, 0) = (false, 5) := by unfold truS; rw [if_pos g]; show (if t.toList = ([84, 82, 85, 69] : List UInt8) then _ else if t.toList = ([70, 65, 76, 83, 69] : List UInt8) then _ else _) = _; rw [if_neg c1, if_neg c2]
          obtain ⟨e1, e2⟩ := Prod.mk.inj (HR.out.symm.trans hr)
          have f1 : (t.toList == ([84, 82, 85, 69] : List UInt8)) = false := beq_eq_false_iff_ne.mpr c1
          have f2 : (t.toList == ([70, 65, 76, 83, 69] : List UInt8)) = false := beq_eq_false_iff_ne.mpr c2
          clear g hr d5 c1 c2
          go_wp2
          go_ret2
          exact ⟨by first | rfl | (simp; done) | (simp [*]; done), (by repeat (first | (with_reducible first | exact HB.out | apply bA | apply below_drew | apply bN | apply bD) | exact HB.out))⟩
    · subst d0 d1 d4
      have f1 : (t.toList == ([84, 82, 85, 69] : List UInt8)) = false := by rw [to_by, d2]; rfl
      cases b
      · have hr : truS (3, 0, t, false, 0) = (false, 0) := by unfold truS; rw [if_pos g]; rfl
        have h2 := HR.out.symm.trans hr
        obtain ⟨e1, e2⟩ := Prod.mk.inj h2
        clear h2
        clear g hr d2
        go_wp2
        go_ret2
        exact ⟨by first | rfl | (simp; done) | (simp [*]; done), (by repeat (first | (with_reducible first | exact HB.out | apply bA | apply below_drew | apply bN | apply bD) | exact HB.out))⟩
      · have hr : truS (3, 0, t, true, 0) = (true, 0) := by unfold truS; rw [if_pos g]; rfl
        have h2 := HR.out.symm.trans hr
        obtain ⟨e1, e2⟩ := Prod.mk.inj h2
        clear h2
        clear g hr d2
        go_wp2
        go_ret2
        exact ⟨by first | rfl | (simp; done) | (simp [*]; done), (by repeat (first | (with_reducible first | exact HB.out | apply bA | apply below_drew | apply bN | apply bD) | exact HB.out))⟩
    · subst d0 d1 d3
      have f1 : (t.toList == ([84, 82, 85, 69] : List UInt8)) = false := by rw [to_by, d2]; rfl
      have hr : truS (4, 0, t, false, e) = (false, e) := by unfold truS; rw [if_pos g]; rfl
      have h2 := HR.out.symm.trans hr
      obtain ⟨e1, e2⟩ := Prod.mk.inj h2
      clear h2
      clear g hr d2
      go_wp2
      repeat (go_quiet (fail); try go_wp2)
      go_ret2
      exact ⟨by first | rfl | (simp; done) | (simp [*]; done), (by repeat (first | (with_reducible first | exact HB.out | apply bA | apply below_drew | apply bN | apply bD) | exact HB.out))⟩
set_option maxHeartbeats 8000000 in
set_option maxRecDepth 100000 in
theorem truth_calls (k n : Int) (t : ByteArray) (b : Bool) (e : Int) (hs : t.size ≤ 1000) (w : World) (hL : Aside0 (Lq w)) :
    Calls Tryz.prog 21 #[.agg #[.int .i64 k, .int .i64 n, .string t, .bool b, .int .i64 e]] w fun e' w' => e' = .returned (.tuple #[.bool (truS (k, n, t, b, e)).1, .int .i64 (truS (k, n, t, b, e)).2]) ∧ Below w.heap.size w w' := by
  have hu24 := Tryz.underlying24
  have HB := Aside0.mk (Below.refl w.heap.size w)
  have hm := wrong_f k n t b e hs
  cases g : mayS (k, n, t, b, e) with
  | false =>
    (try rw [g] at hm)
    rw [if_neg (by decide)] at hm
    have HM := Aside0.mk hm
    have hr : truS (k, n, t, b, e) = (false, 5) := by unfold truS; rw [g, if_neg (by decide)]
    rw [hr]
    clear hm g hr
    go_enter Tryz.func21, Tryz.ntmps21
    go_wp2_with (first | ((with_reducible refine gate_dst (N := 1) rfl ?_); refine box_event ?hg (N := 1) ?hd (cs := cs5 k n t b e) (t := 24) ?hr ?_; (case hd => rfl); (case hg => rfl); (case hr => first | (go_simp; done) | (go_simp; rfl)); intro gV hg wV hbox hb; have n0_ := Aside0.mk (below_step (by repeat (first | (with_reducible first | exact HB.out | apply bA | apply below_drew | apply bN | apply bD) | exact HB.out)) hb); have n1_ := Aside0.mk hbox; clear HB; have HB := n0_; have BKV := n1_; clear n0_ n1_; clear hb hbox hg; obtain ⟨z0, z1, z2, z3, z4, zf0, zf1, zf2, zf3, zf4⟩ := five BKV.out) | ((with_reducible refine gate_callee (f := 43) rfl ?_); (try (refine gate_guard (by rfl) ?_; dsimp only)); refine goesL_ (some 6) rfl rfl Tryz.func43 (by kernel_rfl) rfl #[.agg #[.int .i64 k, .int .i64 n, .string t, .bool b, .int .i64 e]] rfl (by (try simp only [List.map_toArray, List.map_cons, List.map_nil]); first | done | rfl) ?_; (refine (value_wrong.calls (hL := ⟨hL.out.below (by repeat (first | (with_reducible first | exact HB.out | apply bA | apply below_drew | apply bN | apply bD) | exact HB.out))⟩) k n t b e 5 _ HM.out).mono ?_); rintro e_ w43 ⟨rfl, hb⟩; refine ⟨_, rfl, ?_⟩; clear z0 zf0 z1 zf1 z2 zf2 z3 zf3 z4 zf4; have m0_ := Aside0.mk (blk_below (by (with_reducible repeat (first | refine blk_drewN ?_ _ | refine blk_drew ?_ | refine blk_alloc ?_ _)); exact BKV.out) hb); have n0_ := Aside0.mk (below_step (by repeat (first | (with_reducible first | exact HB.out | apply bA | apply below_drew | apply bN | apply bD) | exact HB.out)) hb); clear HB BKV; have HB := n0_; have BKV := m0_; clear n0_ m0_; clear hb; obtain ⟨z0, z1, z2, z3, z4, zf0, zf1, zf2, zf3, zf4⟩ := five BKV.out))
    go_ret2
    exact ⟨by first | rfl | (simp; done) | (simp [*]; done), (by repeat (first | (with_reducible first | exact HB.out | apply bA | apply below_drew | apply bN | apply bD) | exact HB.out))⟩
  | true =>
    (try rw [g] at hm)
    rw [if_pos rfl] at hm
    by_cases c4 : k = 4
    · rw [if_pos c4] at hm
      have HM := Aside0.mk hm
      have he : 1 ≤ e := by rcases may_def _ _ _ _ _ g with ⟨d0, d1, d2, d3, d4⟩ | ⟨d0, d2, d3, d4⟩ | ⟨d0, d1, d3, d4, d5⟩ | ⟨d0, d1, d2, d4⟩ | ⟨d0, d1, d2, d3, d4⟩ <;> omega
      have hr : truS (k, n, t, b, e) = (false, e) := by unfold truS; rw [if_pos g]; subst c4; rfl
      rw [hr]
      have de : decide (0 < e) = true := decide_eq_true (by omega)
      clear hm g hr c4 he
      go_enter Tryz.func21, Tryz.ntmps21
      go_wp2_with (first | ((with_reducible refine gate_dst (N := 1) rfl ?_); refine box_event ?hg (N := 1) ?hd (cs := cs5 k n t b e) (t := 24) ?hr ?_; (case hd => rfl); (case hg => rfl); (case hr => first | (go_simp; done) | (go_simp; rfl)); intro gV hg wV hbox hb; have n0_ := Aside0.mk (below_step (by repeat (first | (with_reducible first | exact HB.out | apply bA | apply below_drew | apply bN | apply bD) | exact HB.out)) hb); have n1_ := Aside0.mk hbox; clear HB; have HB := n0_; have BKV := n1_; clear n0_ n1_; clear hb hbox hg; obtain ⟨z0, z1, z2, z3, z4, zf0, zf1, zf2, zf3, zf4⟩ := five BKV.out) | ((with_reducible refine gate_callee (f := 43) rfl ?_); (try (refine gate_guard (by rfl) ?_; dsimp only)); refine goesL_ (some 6) rfl rfl Tryz.func43 (by kernel_rfl) rfl #[.agg #[.int .i64 k, .int .i64 n, .string t, .bool b, .int .i64 e]] rfl (by (try simp only [List.map_toArray, List.map_cons, List.map_nil]); first | done | rfl) ?_; (refine (value_wrong.calls (hL := ⟨hL.out.below (by repeat (first | (with_reducible first | exact HB.out | apply bA | apply below_drew | apply bN | apply bD) | exact HB.out))⟩) k n t b e e _ HM.out).mono ?_); rintro e_ w43 ⟨rfl, hb⟩; refine ⟨_, rfl, ?_⟩; clear z0 zf0 z1 zf1 z2 zf2 z3 zf3 z4 zf4; have m0_ := Aside0.mk (blk_below (by (with_reducible repeat (first | refine blk_drewN ?_ _ | refine blk_drew ?_ | refine blk_alloc ?_ _)); exact BKV.out) hb); have n0_ := Aside0.mk (below_step (by repeat (first | (with_reducible first | exact HB.out | apply bA | apply below_drew | apply bN | apply bD) | exact HB.out)) hb); clear HB BKV; have HB := n0_; have BKV := m0_; clear n0_ m0_; clear hb; obtain ⟨z0, z1, z2, z3, z4, zf0, zf1, zf2, zf3, zf4⟩ := five BKV.out))
      go_ret2
      exact ⟨by first | rfl | (simp; done) | (simp [*]; done), (by repeat (first | (with_reducible first | exact HB.out | apply bA | apply below_drew | apply bN | apply bD) | exact HB.out))⟩
    · rw [if_neg c4] at hm
      have HM := Aside0.mk hm
      clear hm
      have G := Aside0.mk (And.intro g c4)
      clear g c4
      obtain ⟨⟨R1, R2⟩, hR⟩ : ∃ q, truS (k, n, t, b, e) = q := ⟨_, rfl⟩
      rw [hR]
      have HR := Aside0.mk hR
      clear hR
      go_enter Tryz.func21, Tryz.ntmps21
      go_upto_region 4 with (first | ((with_reducible refine gate_dst (N := 1) rfl ?_); refine box_event ?hg (N := 1) ?hd (cs := cs5 k n t b e) (t := 24) ?hr ?_; (case hd => rfl); (case hg => rfl); (case hr => first | (go_simp; done) | (go_simp; rfl)); intro gV hg wV hbox hb; have n0_ := Aside0.mk (below_step (by repeat (first | (with_reducible first | exact HB.out | apply bA | apply below_drew | apply bN | apply bD) | exact HB.out)) hb); have n1_ := Aside0.mk hbox; clear HB; have HB := n0_; have BKV := n1_; clear n0_ n1_; clear hb hbox hg; obtain ⟨z0, z1, z2, z3, z4, zf0, zf1, zf2, zf3, zf4⟩ := five BKV.out) | ((with_reducible refine gate_callee (f := 43) rfl ?_); (try (refine gate_guard (by rfl) ?_; dsimp only)); refine goesL_ (some 6) rfl rfl Tryz.func43 (by kernel_rfl) rfl #[.agg #[.int .i64 k, .int .i64 n, .string t, .bool b, .int .i64 e]] rfl (by (try simp only [List.map_toArray, List.map_cons, List.map_nil]); first | done | rfl) ?_; (refine (value_wrong.calls (hL := ⟨hL.out.below (by repeat (first | (with_reducible first | exact HB.out | apply bA | apply below_drew | apply bN | apply bD) | exact HB.out))⟩) k n t b e 0 _ HM.out).mono ?_); rintro e_ w43 ⟨rfl, hb⟩; refine ⟨_, rfl, ?_⟩; clear z0 zf0 z1 zf1 z2 zf2 z3 zf3 z4 zf4; have m0_ := Aside0.mk (blk_below (by (with_reducible repeat (first | refine blk_drewN ?_ _ | refine blk_drew ?_ | refine blk_alloc ?_ _)); exact BKV.out) hb); have n0_ := Aside0.mk (below_step (by repeat (first | (with_reducible first | exact HB.out | apply bA | apply below_drew | apply bN | apply bD) | exact HB.out)) hb); clear HB BKV; have HB := n0_; have BKV := m0_; clear n0_ m0_; clear hb; obtain ⟨z0, z1, z2, z3, z4, zf0, zf1, zf2, zf3, zf4⟩ := five BKV.out))
      obtain ⟨g, c4⟩ := G.out
      clear G
      rcases may_def _ _ _ _ _ g with ⟨d0, d1, d2, d3, d4⟩ | ⟨d0, d2, d3, d4⟩ | ⟨d0, d1, d3, d4, d5⟩ | ⟨d0, d1, d2, d4⟩ | ⟨d0, d1, d2, d3, d4⟩
      · subst d0 d1 d3 d4
        clear c4
        have f1 : (t.toList == ([84, 82, 85, 69] : List UInt8)) = false := by rw [to_by, d2]; rfl
        have hr : truS (0, 0, t, false, 0) = (false, 0) := by unfold truS; rw [if_pos g]; rfl
        have h2 := HR.out.symm.trans hr
        obtain ⟨e1, e2⟩ := Prod.mk.inj h2
        clear h2
        clear g hr d2
        go_wp2
        go_ret2
        exact ⟨by first | rfl | (simp; done) | (simp [*]; done), (by repeat (first | (with_reducible first | exact HB.out | apply bA | apply below_drew | apply bN | apply bD) | exact HB.out))⟩
      · subst d0 d3 d4
        clear c4
        have f1 : (t.toList == ([84, 82, 85, 69] : List UInt8)) = false := by rw [to_by, d2]; rfl
        have hr : truS (1, n, t, false, 0) = (n != 0, 0) := by unfold truS; rw [if_pos g]; rfl
        have h2 := HR.out.symm.trans hr
        obtain ⟨e1, e2⟩ := Prod.mk.inj h2
        clear h2
        clear g hr d2
        by_cases c : n = 0
        · subst c
          have e3 : R1 = false := e1.trans (by decide)
          clear e1
          go_wp2
          go_ret2
          exact ⟨by first | rfl | (simp; done) | (simp [*]; done), (by repeat (first | (with_reducible first | exact HB.out | apply bA | apply below_drew | apply bN | apply bD) | exact HB.out))⟩
        · have c1 : (n != 0) = true := bne_iff_ne.mpr c
          have c2 : (n == 0) = false := beq_eq_false_iff_ne.mpr c
          have c3 : decide (n = 0) = false := decide_eq_false c
          rw [c1] at e1
          go_wp2
          go_ret2
          exact ⟨by first | rfl | (simp; done) | (simp [*]; done), (by repeat (first | (with_reducible first | exact HB.out | apply bA | apply below_drew | apply bN | apply bD) | exact HB.out))⟩
      · subst d0 d1 d3 d4
        clear c4
        by_cases c1 : t.toList = ([84, 82, 85, 69] : List UInt8)
        · have hr : truS (2, 0, t, false, 0) = (true, 0) := by unfold truS; rw [if_pos g]; show (if t.toList = ([84, 82, 85, 69] : List UInt8) then _ else if t.toList = ([70, 65, 76, 83, 69] : List UInt8) then _ else _) = _; rw [if_pos c1]
          obtain ⟨e1, e2⟩ := Prod.mk.inj (HR.out.symm.trans hr)
          have f1 : (t.toList == ([84, 82, 85, 69] : List UInt8)) = true := beq_iff_eq.mpr c1
          clear g hr d5 c1
          go_wp2
          go_ret2
          exact ⟨by first | rfl | (simp; done) | (simp [*]; done), (by repeat (first | (with_reducible first | exact HB.out | apply bA | apply below_drew | apply bN | apply bD) | exact HB.out))⟩
        · by_cases c2 : t.toList = ([70, 65, 76, 83, 69] : List UInt8)
          · have hr : truS (2, 0, t, false, 0) = (false, 0) := by unfold truS; rw [if_pos g]; show (if t.toList = ([84, 82, 85, 69] : List UInt8) then _ else if t.toList = ([70, 65, 76, 83, 69] : List UInt8) then _ else _) = _; rw [if_neg c1, if_pos c2]
            obtain ⟨e1, e2⟩ := Prod.mk.inj (HR.out.symm.trans hr)
            have f1 : (t.toList == ([84, 82, 85, 69] : List UInt8)) = false := beq_eq_false_iff_ne.mpr c1
            have f2 : (t.toList == ([70, 65, 76, 83, 69] : List UInt8)) = true := beq_iff_eq.mpr c2
            clear g hr d5 c1 c2
            go_wp2
            go_ret2
            exact ⟨by first | rfl | (simp; done) | (simp [*]; done), (by repeat (first | (with_reducible first | exact HB.out | apply bA | apply below_drew | apply bN | apply bD) | exact HB.out))⟩
          · have hr : truS (2, 0, t, false, 0) = (false, 5) := by unfold truS; rw [if_pos g]; show (if t.toList = ([84, 82, 85, 69] : List UInt8) then _ else if t.toList = ([70, 65, 76, 83, 69] : List UInt8) then _ else _) = _; rw [if_neg c1, if_neg c2]
            obtain ⟨e1, e2⟩ := Prod.mk.inj (HR.out.symm.trans hr)
            have f1 : (t.toList == ([84, 82, 85, 69] : List UInt8)) = false := beq_eq_false_iff_ne.mpr c1
            have f2 : (t.toList == ([70, 65, 76, 83, 69] : List UInt8)) = false := beq_eq_false_iff_ne.mpr c2
            clear g hr d5 c1 c2
            go_wp2
            go_ret2
            exact ⟨by first | rfl | (simp; done) | (simp [*]; done), (by repeat (first | (with_reducible first | exact HB.out | apply bA | apply below_drew | apply bN | apply bD) | exact HB.out))⟩
      · subst d0 d1 d4
        clear c4
        have f1 : (t.toList == ([84, 82, 85, 69] : List UInt8)) = false := by rw [to_by, d2]; rfl
        cases b
        · have hr : truS (3, 0, t, false, 0) = (false, 0) := by unfold truS; rw [if_pos g]; rfl
          have h2 := HR.out.symm.trans hr
          obtain ⟨e1, e2⟩ := Prod.mk.inj h2
          clear h2
          clear g hr d2
          go_wp2
          go_ret2
          exact ⟨by first | rfl | (simp; done) | (simp [*]; done), (by repeat (first | (with_reducible first | exact HB.out | apply bA | apply below_drew | apply bN | apply bD) | exact HB.out))⟩
        · have hr : truS (3, 0, t, true, 0) = (true, 0) := by unfold truS; rw [if_pos g]; rfl
          have h2 := HR.out.symm.trans hr
          obtain ⟨e1, e2⟩ := Prod.mk.inj h2
          clear h2
          clear g hr d2
          go_wp2
          go_ret2
          exact ⟨by first | rfl | (simp; done) | (simp [*]; done), (by repeat (first | (with_reducible first | exact HB.out | apply bA | apply below_drew | apply bN | apply bD) | exact HB.out))⟩
      · omega
end Go.Proofs.YtfnbflhoaemmeaaGreatDoor.EVal
