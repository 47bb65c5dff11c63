/- Part 7 of what the claim's proof stands on: contracts of the program's functions, by walks, and plain laws. -/
import Derived.Test.YtfnbflhoaemmeaaGreatDoorZw6
import Derived.WalkKit
section
namespace Go.Proofs.YtfnbflhoaemmeaaGreatDoor.EBui
open Go.RowKit Go.Lib Go.Proofs.YtfnbflhoaemmeaaGreatDoorW.PrintWords Go.Proofs.YtfnbflhoaemmeaaGreatDoorW.PrintLast Go.Proofs.YtfnbflhoaemmeaaGreatDoorW.PrintMore Go.Proofs.YtfnbflhoaemmeaaGreatDoor.Ext Go.Proofs.YtfnbflhoaemmeaaGreatDoor.EFxA Go.Proofs.YtfnbflhoaemmeaaGreatDoor.EFix Go.Proofs.YtfnbflhoaemmeaaGreatDoor.EVal
attribute [local go_sem] max2_int min2_int max_two min_two max_three min_three max_four min_four
set_option linter.unusedVariables false
set_option linter.unusedSimpArgs false
def bw_T : Bool × List (List Nat × List Nat) := (true, [([], []), ([], []), ([0, 1], [0, 1]), ([2], [2]), ([], []), ([], []), ([4, 5], [4, 5]), ([6], [6]), ([], []), ([], []), ([8, 9], [8, 9]), ([10], [10]), ([7, 11], [7, 11]), ([3, 12], [3, 12]), ([], []), ([14, 13, 13, 0, 1, 2, 3, 4, 5, 6, 7, 8, 9, 10, 11, 12, 13, 14], [13, 14])])
def bw_B : List Nat := [0, 0, 3, 7, 0, 0, 48, 112, 0, 0, 768, 1792, 4080, 8191, 0, 32767]
theorem bw_tab : rtab .any (opsOf Tryz.f5 13) = bw_T := by kernel_rfl
theorem bw_bits : waitsOk bw_T.2 bw_B = true := by kernel_rfl
def nmsW : List ByteArray := [(⟨#[83, 85, 77]⟩ : ByteArray), (⟨#[77, 73, 78]⟩ : ByteArray), (⟨#[77, 65, 88]⟩ : ByteArray), (⟨#[67, 79, 85, 78, 84]⟩ : ByteArray), (⟨#[65, 86, 69, 82, 65, 71, 69]⟩ : ByteArray)]
theorem nms_ar (i : Nat) (h : i < 5) : ∀ w, Calls Tryz.prog 53 #[.string (rdOf ByteArray.empty nmsW (i : Int))] w fun e w' => e = .returned (.tuple #[.int .i64 0, .int .i64 810000, .bool true]) ∧ Drawn0 w w' := by
  match i, h with
  | 0, _ => exact arity_SUM
  | 1, _ => exact arity_MIN
  | 2, _ => exact arity_MAX
  | 3, _ => exact arity_COUNT
  | 4, _ => exact arity_AVERAGE
  | i + 5, h => omega
set_option maxHeartbeats 8000000 in
set_option maxRecDepth 100000 in
theorem builtinWorst_in (A0 : Option Addr) (c0 : Nat) (l0 : List S24) (cut : Int) (w : World) (hL : Aside0 (Lq w)) (hr0 : Kd.C k24 w A0 l0.length l0) (hc0 : l0.length ≤ c0) (hi : ∀ x ∈ l0, int64 x.f1) :
    Calls Tryz.prog 5 #[.slice A0 l0.length c0, .int .i64 cut] w fun e w' => e = .returned (.bool true) ∧ Below w.heap.size w w' := by
  have hu24 := Tryz.underlying24
  have hu44 := Tryz.underlying44
  obtain ⟨kC, l, hCA, hl12, hok⟩ := cutAll_f l0 12 (by decide) hi
  obtain ⟨kW, hWO⟩ := refWorst_f l (by omega) hok
  obtain ⟨e0, he0⟩ : ∃ e, (l.foldl stepA ([], 0)).2 = e := ⟨_, rfl⟩
  have hall : ∀ i : Nat, i < 5 → ∃ r : R5, (e0 > 0 → r = (4, 0, (⟨#[]⟩ : ByteArray), false, e0)) ∧ ∀ c, c ≤ l.length → (∃ k, builtin_all.f k (rdOf ByteArray.empty nmsW (i : Int)) [⟨true, l⟩] = some r) ∧ (∃ k, builtin_all.f k (rdOf ByteArray.empty nmsW (i : Int)) [⟨true, l.take c⟩, ⟨true, l.drop c⟩] = some r) := by
    intro i _
    have := both_eq (rdOf ByteArray.empty nmsW (i : Int)) l (by omega) hok
    rw [he0] at this
    exact this
  rw [he0] at hWO
  have HR0 := Aside0.mk hr0
  have HC0 := Aside0.mk hc0
  have HCA : Aside0 (counterpanelaw2_CutAll.f kC l0 12 = some l) := ⟨hCA⟩
  have HWO := Aside0.mk hWO
  have HALL := Aside0.mk hall
  have HL12 := Aside0.mk hl12
  clear hr0 hc0 hCA hWO hall hl12 hok he0 hi
  have HB := Aside0.mk (Below.refl w.heap.size w)
  go_enter Tryz.func5, Tryz.ntmps5
  go_upto_region 5 with (first
    | ((with_reducible refine gate_callee (f := 25) rfl ?_); (try (refine gate_guard (by rfl) ?_; dsimp only)); refine goesL_ (some 11) rfl rfl Tryz.func25 (by kernel_rfl) rfl #[] rfl (by (try simp only [List.map_toArray, List.map_cons, List.map_nil]); first | done | rfl) ?_; (refine (begun12 (w := _) (hL := ⟨hL.out.below (by repeat (first | (with_reducible first | exact HB.out | apply bA | apply below_drew | apply bN | apply bD) | exact HB.out))⟩)).mono ?_); rintro e_ v1 ⟨rfl, hb⟩; refine ⟨_, rfl, ?_⟩; have n0_ := Aside0.mk (below_step (by repeat (first | (with_reducible first | exact HB.out | apply bA | apply below_drew | apply bN | apply bD) | exact HB.out)) hb); clear HB ; have HB := n0_; clear n0_ hb)
    | ((with_reducible refine gate_callee (f := 26) rfl ?_); refine goesL_ (some 15) rfl rfl Tryz.func26 (by kernel_rfl) rfl #[.slice A0 l0.length c0, .int .i64 12] rfl (by (try simp only [List.map_toArray, List.map_cons, List.map_nil]); first | done | rfl) ?_; (with_reducible refine (counterpanelaw2_CutAll.calls kC _ _ l0 12 l _ ?side1 ?side2 HCA.out).mono ?_); (case side1 => exact Kd.C_below HR0.out (by repeat (first | (with_reducible first | exact HB.out | apply bA | apply below_drew | apply bN | apply bD) | exact HB.out))); (case side2 => exact HC0.out); rintro e_ wB ⟨vB, rfl, ho0, hb⟩; refine ⟨_, rfl, ?_⟩; have HW := Aside0.mk (below_step (by repeat (first | (with_reducible first | exact HB.out | apply bA | apply below_drew | apply bN | apply bD) | exact HB.out)) hb); obtain ⟨Ao, co, eo⟩ := Kd.R_slice ho0; subst eo; have HF := Aside0.mk (Kd.R_F ho0); have HLE := Aside0.mk (Kd.R_reads' ho0).2.1; clear HB ho0 hb; have HB := Aside0.mk (Below.refl wB.heap.size wB)))
  (try simp only [Act.put, List.setIfInBounds_toArray, List.set_cons_zero, List.set_cons_succ])
  go_cut [23] (fun v23 wc => ∃ b : Bool, v23 = .bool b ∧ Aside0 (b = false → ∃ c : Nat, cut = (c : Int) ∧ c ≤ l.length) ∧ Aside0 (Below wB.heap.size wB wc))
  case first =>
    by_cases c1 : cut < 0
    · have d1 : decide (cut < 0) = true := decide_eq_true c1
      clear c1
      go_wp2
      go_meet
      case rel => exact ⟨true, by first | rfl | (simp; done), ⟨fun h => by cases h⟩, ⟨(by repeat (first | (with_reducible first | exact HB.out | apply bA | apply below_drew | apply bN | apply bD) | exact HB.out))⟩⟩
    · have d1 : decide (cut < 0) = false := decide_eq_false c1
      by_cases c2 : (l.length : Int) < cut
      · have d2 : decide ((l.length : Int) < cut) = true := decide_eq_true c2
        clear c1 c2
        go_wp2
        go_meet
        case rel => exact ⟨true, by first | rfl | (simp; done), ⟨fun h => by cases h⟩, ⟨(by repeat (first | (with_reducible first | exact HB.out | apply bA | apply below_drew | apply bN | apply bD) | exact HB.out))⟩⟩
      · have d2 : decide ((l.length : Int) < cut) = false := decide_eq_false c2
        have HCUT : Aside0 (∃ c : Nat, cut = (c : Int) ∧ c ≤ l.length) := ⟨cut.toNat, by omega, by omega⟩
        clear c1 c2
        go_wp2
        go_meet
        case rel => exact ⟨false, by first | rfl | (simp; done), ⟨fun _ => HCUT.out⟩, ⟨(by repeat (first | (with_reducible first | exact HB.out | apply bA | apply below_drew | apply bN | apply bD) | exact HB.out))⟩⟩
  case rest =>
   clear HB
   obtain ⟨b, rfl, HCUT, HB⟩ := hcut
   go_upto_if 23 with (fail)
   go_cut [1] (fun v1 wc => ∃ c : Nat, v1 = .int .i64 (c : Int) ∧ Aside0 (c ≤ l.length) ∧ Aside0 (Below wB.heap.size wB wc))
   case first =>
     cases b with
     | true =>
       go_wp2
       go_meet
       case rel => exact ⟨0, by first | rfl | (simp; done), ⟨Nat.zero_le _⟩, ⟨(by repeat (first | (with_reducible first | exact HB.out | apply bA | apply below_drew | apply bN | apply bD) | exact HB.out))⟩⟩
     | false =>
       obtain ⟨c, rfl, hcl⟩ := HCUT.out rfl
       have HCL := Aside0.mk hcl
       clear hcl
       go_wp2
       go_meet
       case rel => exact ⟨c, by first | rfl | (simp; done), HCL, ⟨(by repeat (first | (with_reducible first | exact HB.out | apply bA | apply below_drew | apply bN | apply bD) | exact HB.out))⟩⟩
   case rest =>
    clear HB HCUT
    obtain ⟨c, rfl, HCL, HB⟩ := hcut
    go_wp2_with (first
      | ((with_reducible refine gate_callee (f := 27) rfl ?_); refine goesL_ (some 25) rfl rfl Tryz.func27 (by kernel_rfl) rfl #[.slice Ao l.length co] rfl (by (try simp only [List.map_toArray, List.map_cons, List.map_nil]); first | done | rfl) ?_; (with_reducible refine (counterpaneref1_Worst.calls kW _ _ l e0 _ ?side1 ?side2 HWO.out).mono ?_); (case side1 => exact Kd.F_now (Kd.F_below HF.out (by repeat (first | (with_reducible first | exact HB.out | apply bA | apply below_drew | apply bN | apply bD) | exact HB.out)))); (case side2 => exact HLE.out); rintro e_ wC ⟨rfl, hb⟩; refine ⟨_, rfl, ?_⟩; have n0_ := Aside0.mk (below_step (by repeat (first | (with_reducible first | exact HB.out | apply bA | apply below_drew | apply bN | apply bD) | exact HB.out)) hb); clear HB hb; have HB := n0_; clear n0_)
      | ((with_reducible refine gate_dst (N := 26) rfl ?_); refine Kd.R_lit Kd.string _ 9 ?hg (N := 26) ?hd (xs := [(⟨#[83, 85, 77]⟩ : ByteArray), (⟨#[77, 73, 78]⟩ : ByteArray), (⟨#[77, 65, 88]⟩ : ByteArray), (⟨#[67, 79, 85, 78, 84]⟩ : ByteArray), (⟨#[65, 86, 69, 82, 65, 71, 69]⟩ : ByteArray)]) (inner := [.string (⟨#[83, 85, 77]⟩ : ByteArray), .string (⟨#[77, 73, 78]⟩ : ByteArray), .string (⟨#[77, 65, 88]⟩ : ByteArray), .string (⟨#[67, 79, 85, 78, 84]⟩ : ByteArray), .string (⟨#[65, 86, 69, 82, 65, 71, 69]⟩ : ByteArray)]) (ok := fun _ => True) (okp := fun _ => True) ?hr ?hp (fun _ hk => hk) trivial (Below.refl _ _) (Nat.le_refl _) (by simp) ?_; (case hd => rfl); (case hg => rfl); (case hr => first | (go_simp; done) | (go_simp; rfl)); (case hp => exact (Reps.one (show Kd.M Kd.string _ _ _ (⟨#[83, 85, 77]⟩ : ByteArray) [.string (⟨#[83, 85, 77]⟩ : ByteArray)] from rfl) (Reps.one (show Kd.M Kd.string _ _ _ (⟨#[77, 73, 78]⟩ : ByteArray) [.string (⟨#[77, 73, 78]⟩ : ByteArray)] from rfl) (Reps.one (show Kd.M Kd.string _ _ _ (⟨#[77, 65, 88]⟩ : ByteArray) [.string (⟨#[77, 65, 88]⟩ : ByteArray)] from rfl) (Reps.one (show Kd.M Kd.string _ _ _ (⟨#[67, 79, 85, 78, 84]⟩ : ByteArray) [.string (⟨#[67, 79, 85, 78, 84]⟩ : ByteArray)] from rfl) (Reps.one (show Kd.M Kd.string _ _ _ (⟨#[65, 86, 69, 82, 65, 71, 69]⟩ : ByteArray) [.string (⟨#[65, 86, 69, 82, 65, 71, 69]⟩ : ByteArray)] from rfl) (Reps.none _ _))))))); intro vN wN ho8 hb hg_ hnew_; clear hg_ hnew_; obtain ⟨An, cn, en⟩ := Kd.R_slice ho8; subst en; have HN : Aside0 (Kd.string.C wN An nmsW.length nmsW) := ⟨(Kd.R_reads' ho8).2.2⟩; have n0_ := Aside0.mk (Kd.F_below HF.out (below_step (by repeat (first | (with_reducible first | exact HB.out | apply bA | apply below_drew | apply bN | apply bD) | exact HB.out)) hb)); have n1_ := Aside0.mk (below_then HW.out HW.out.size (below_step (by repeat (first | (with_reducible first | exact HB.out | apply bA | apply below_drew | apply bN | apply bD) | exact HB.out)) hb)); clear HF HW HB ho8 hb; have HF := n0_; have HW := n1_; clear n0_ n1_; have HB := Aside0.mk (Below.refl wN.heap.size wN)))
    (try simp only [Act.put, List.setIfInBounds_toArray, List.set_cons_zero, List.set_cons_succ])
    obtain ⟨l1, hl1⟩ : ∃ l1, l.take c = l1 := ⟨_, rfl⟩
    obtain ⟨l2, hl2⟩ : ∃ l2, l.drop c = l2 := ⟨_, rfl⟩
    obtain ⟨A2, hA2⟩ : ∃ A2, (if co = c then Ao else Ao.map (·.add (c * 5))) = A2 := ⟨_, rfl⟩
    obtain ⟨c2, hc2⟩ : ∃ c2, co - c = c2 := ⟨_, rfl⟩
    have n1 : l1.length = c := by rw [← hl1, List.length_take]; have := HCL.out; omega
    have n2 : l2.length = l.length - c := by rw [← hl2, List.length_drop]
    have HF1 : Aside0 (Kd.F k24 wN (fun _ => True) Ao l1.length l1) := ⟨by have := Kd.F_take HF.out HCL.out; rw [hl1] at this; exact this⟩
    have HF2 : Aside0 (Kd.F k24 wN (fun _ => True) A2 l2.length l2) := ⟨by have := Kd.F_cut HF.out HCL.out HLE.out; rw [hl2] at this; rw [← hA2]; exact this⟩
    have HLE1 : Aside0 (l1.length ≤ co) := ⟨by have := HLE.out; have := HCL.out; omega⟩
    have HLE2 : Aside0 (l2.length ≤ c2) := ⟨by have := HLE.out; have := HCL.out; omega⟩
    have kc1 : ∀ W, Sem.run Tryz.prog (Instr.slice 38 (.slice Ao l.length co) none (some (.int .i64 (c : Int))) none) W = .ok (.slice Ao l1.length co) W := by
      intro W
      have := cut_to (P := Tryz.prog) 38 24 .i64 Tryz.underlying38 (i := (Tryz.prog.info? 24).get (by kernel_rfl)) (by kernel_rfl) Ao l.length co (c : Int) (by omega) (by have := HCL.out; omega) HLE.out W
      rw [Int.toNat_natCast, ← n1] at this
      exact n1 ▸ this
    have kc2 : ∀ W, Sem.run Tryz.prog (Instr.slice 38 (.slice Ao l.length co) (some (.int .i64 (c : Int))) none none) W = .ok (.slice A2 l2.length c2) W := by
      intro W
      have := cut_from (P := Tryz.prog) 38 24 .i64 Tryz.underlying38 (i := (Tryz.prog.info? 24).get (by kernel_rfl)) (by kernel_rfl) 5 (by kernel_rfl) Ao l.length co (c : Int) (by omega) (by have := HCL.out; omega) W
      rw [Int.toNat_natCast, hA2, hc2, ← n2] at this
      exact this
    have hall2 : ∀ i : Nat, i < 5 → ∃ r : R5, (e0 > 0 → r = (4, 0, (⟨#[]⟩ : ByteArray), false, e0)) ∧ (∃ k, builtin_all.f k (rdOf ByteArray.empty nmsW (i : Int)) [⟨true, l⟩] = some r) ∧ (∃ k, builtin_all.f k (rdOf ByteArray.empty nmsW (i : Int)) [⟨true, l1⟩, ⟨true, l2⟩] = some r) := by
      intro i hi
      obtain ⟨r, h1, h2⟩ := HALL.out i hi
      have h3 := h2 c HCL.out
      rw [hl1, hl2] at h3
      exact ⟨r, h1, h3⟩
    have HALL2 := Aside0.mk hall2
    clear HALL hall2 hl1 hl2 hA2 hc2 n1 n2
    go_loopg [8] 6 (fun kq v8 w' => ∃ i : Nat, v8 = .int .i64 (i : Int) ∧ i ≤ 5 ∧ Aside0 (i + kq = 6) ∧ Aside0 (Below wN.heap.size wN w'))
    case atStart => exact ⟨0, by first | rfl | (simp; done), by omega, ⟨rfl⟩, HB⟩
    case round =>
      clear HB
      obtain ⟨i, rfl, hi5, HI, HB⟩ := hrel
      by_cases ci : i < 5
      · have d0 : decide ((i : Int) < 5) = true := decide_eq_true (by omega)
        have d1 : decide (0 ≤ (i : Int)) = true := decide_eq_true (by omega)
        have d2 : decide ((i : Int) < (nmsW.length : Int)) = true := decide_eq_true (by show (i : Int) < 5; omega)
        have p1 : (0 ≤ (i : Int)) = True := eq_true (by omega)
        have p2 : ((i : Int) < (nmsW.length : Int)) = True := eq_true (by show (i : Int) < 5; omega)
        have p3 : (i < nmsW.length) = True := eq_true (by show i < 5; omega)
        have p4 : ((i : Int) < 5) = True := eq_true (by omega)
        have p5 : (i < 5) = True := eq_true ci
        have kw : IntKind.i64.wrap ((i : Int) + 1) = ((i + 1 : Nat) : Int) := by rw [IntKind.wrap_i64]; omega
        obtain ⟨k2, rfl⟩ : ∃ k2, gk = k2 + 1 := ⟨gk - 1, by have := HI.out; omega⟩
        obtain ⟨⟨r1, r2, r3, r4, r5⟩, hr, ⟨k1, hk1⟩, k2_, hk2⟩ := HALL2.out i ci
        obtain ⟨adN, eN, hx⟩ := Kd.at_string HN.out (i : Int) (by omega) (by show (i : Int) < 5; omega)
        cases eN
        rw [Int.toNat_natCast] at hx
        have har := nms_ar i ci
        obtain ⟨nm, hnm⟩ : ∃ nm, rdOf ByteArray.empty nmsW (i : Int) = nm := ⟨_, rfl⟩
        rw [hnm] at hx hk1 hk2 har
        have HK1 := Aside0.mk hk1
        have HK2 := Aside0.mk hk2
        have HAR := Aside0.mk har
        have hN0 := Aside0.mk hx
        have hx' := (HB.out.cell (World.block_lt_of_cell? wN _ hx)).trans hx
        have HRR := Aside0.mk hr
        clear hk1 hk2 har hr hnm hx
        go_upto_region 13 with (first
          | ((with_reducible refine gate_dst (N := 37) rfl ?_); refine Kd.N_lit k44 _ 44 ?hg (N' := 37) ?hd (xs := [(⟨true, l⟩ : S44)]) (inner := [.bool true, .slice Ao l.length co]) (ok := (fun _ => True)) (okp := (fun _ => True)) ?hr ?hp (fun _ hk => hk) trivial (Below.refl _ _) (Nat.le_refl _) (by simp) ?_; (case hd => rfl); (case hg => rfl); (case hr => first | (go_simp; done) | (go_simp; rfl)); (case hp => exact (Reps.c2 (show Kd.FK k44 _ _ (⟨true, l⟩ : S44) [.bool true, .slice Ao l.length co] from (k44_mkF _ _ (⟨true, l⟩ : S44) HLE.out (Kd.F_below HF.out (by repeat (first | (with_reducible first | exact HB.out | apply bA | apply below_drew | apply bN | apply bD) | exact HB.out))))) (Reps.none _ _))); intro v_ wP ho hb hg_ hnew_; clear hg_ hnew_; obtain ⟨Ap, cp, ep, lp, rp⟩ := Kd.N_reads ho; subst ep; have HRP := Aside0.mk rp; have HLP := Aside0.mk lp; have n0_ := Aside0.mk (below_step (by repeat (first | (with_reducible first | exact HB.out | apply bA | apply below_drew | apply bN | apply bD) | exact HB.out)) hb); clear HB ; have HB := n0_; clear n0_ hb; clear ho lp rp)
          | ((with_reducible refine gate_callee (f := 28) rfl ?_); refine goesL_ (some 38) rfl rfl Tryz.func28 (by kernel_rfl) rfl #[.string nm, .slice Ap 1 cp] rfl (by (try simp only [List.map_toArray, List.map_cons, List.map_nil]); first | done | rfl) ?_; (refine (call_all (hL := ⟨hL.out.below (below_then HW.out HW.out.size (by repeat (first | (with_reducible first | exact HB.out | apply bA | apply below_drew | apply bN | apply bD) | exact HB.out)))⟩) k1 nm HAR.out _ _ [(⟨true, l⟩ : S44)] (show 1 ≤ 810000 by decide) r1 r2 r3 r4 r5 _ ?side1 ?side2 HK1.out).mono ?_); (case side1 => repeat (first | exact HRP.out | (with_reducible refine Kd.C_alloc ?_ _) | (with_reducible refine Kd.C_drewN ?_ _) | (with_reducible refine Kd.C_drew ?_))); (case side2 => exact HLP.out); rintro e_ wQ ⟨rfl, hb⟩; refine ⟨_, rfl, ?_⟩; clear HRP HLP; have n0_ := Aside0.mk (below_step (by repeat (first | (with_reducible first | exact HB.out | apply bA | apply below_drew | apply bN | apply bD) | exact HB.out)) hb); clear HB hb; have HB := n0_; clear n0_)
          | ((with_reducible refine gate_dst (N := 9) rfl ?_); (try (refine gate_guard (by rfl) ?_; dsimp only)); refine box_event ?hg (N := 9) ?hd (cs := cs5 0 0 (⟨#[]⟩ : ByteArray) false 0) (t := 24) ?hr ?_; (case hd => rfl); (case hg => rfl); (case hr => first | (go_simp; done) | (go_simp; rfl)); intro gA hg wA hbox hb; have GEA := Aside0.mk ((by rw [hg]; exact (below_size (by repeat (first | (with_reducible first | exact HB.out | apply bA | apply below_drew | apply bN | apply bD) | exact HB.out))) : wN.heap.size ≤ gA)); have nX_ := Aside0.mk hbox; have n0_ := Aside0.mk (below_step (by repeat (first | (with_reducible first | exact HB.out | apply bA | apply below_drew | apply bN | apply bD) | exact HB.out)) hb); clear HB ; have HB := n0_; clear n0_ hb; have BKA := nX_; clear nX_ hbox hg; obtain ⟨zA0, zA1, zA2, zA3, zA4, zAf0, zAf1, zAf2, zAf3, zAf4⟩ := five BKA.out))
        (try simp only [Act.put, List.setIfInBounds_toArray, List.set_cons_zero, List.set_cons_succ])
        generalize hW : World.setCell _ ⟨gA, 4, none⟩ _ = wS
        have mA_ : Aside0 (wS.heap[gA]? = some (.cells (cs5 r1 r2 r3 r4 r5) 24 (0, 0))) := ⟨by rw [← hW]; exact vput (by (with_reducible repeat (first | refine blk_drewN ?_ _ | refine blk_drew ?_ | refine blk_alloc ?_ _)); exact BKA.out) _ _ _ _ _⟩
        have n0_ : Aside0 (Below wN.heap.size wN wS) := ⟨by rw [← hW]; exact vbel (by repeat (first | (with_reducible first | exact HB.out | apply bA | apply below_drew | apply bN | apply bD | refine below_set ?_ GEA.out) | exact HB.out)) GEA.out _ _ _ _ _⟩
        clear BKA HB hW hx' zA0 zA1 zA2 zA3 zA4 zAf0 zAf1 zAf2 zAf3 zAf4
        have BKA := mA_
        have HB := n0_
        clear mA_ n0_
        refine start_ (n := 16) (S := fun w' => w'.cell? (adN.add i) = some (.string nm)) (ds := []) #[false, false, false, false, false, false, false, false, false, false, false, false, false, false, false, false] (by kernel_rfl) rfl rfl ((HB.out.cell (World.block_lt_of_cell? wN _ hN0.out)).trans hN0.out) (fun hHeld => ?_)
        refine with_tabW bw_tab bw_bits (fun HT_ HW_ => ?_)
        have m0_ := Aside0.mk (blk_drew BKA.out)
        have n0_ := Aside0.mk (below_drew1 HB.out)
        clear BKA HB
        have BKA := m0_
        have HB := n0_
        clear m0_ n0_
        generalize wS.drew = wD at BKA HB hHeld ⊢
        refine pure_ (i := 0) (N := some 39) (v := ?_) (a' := ?_) #[true, false, false, false, false, false, false, false, false, false, false, false, false, false, false, false] rfl rfl (any_of HT_.out (by kernel_rfl)) (fun _ _ _ h => h) (Or.inl ⟨by rfl, ?_⟩) ?_ ?_
        rotate_left
        · intro w'
          go_simp
          with_reducible rfl
        rotate_left
        · simp only [Act.put, List.setIfInBounds_toArray, List.set_cons_zero, List.set_cons_succ, i64_w, i32_w]
          rfl
        refine pure_ (i := 1) (N := some 40) (v := ?_) (a' := ?_) #[true, true, false, false, false, false, false, false, false, false, false, false, false, false, false, false] rfl rfl (any_of HT_.out (by kernel_rfl)) (fun _ _ _ h => h) (Or.inl ⟨by rfl, ?_⟩) ?_ ?_
        rotate_left
        · intro w'
          go_simp
          with_reducible rfl
        rotate_left
        · simp only [Act.put, List.setIfInBounds_toArray, List.set_cons_zero, List.set_cons_succ, i64_w, i32_w]
          rfl
        refine pure_ (i := 2) (N := some 41) (v := ?_) (a' := ?_) #[true, true, true, false, false, false, false, false, false, false, false, false, false, false, false, false] rfl rfl (any_of HT_.out (by kernel_rfl)) (fun _ _ _ h => h) (Or.inl ⟨by rfl, ?_⟩) ?_ ?_
        rotate_left
        · intro w'
          go_simp
          with_reducible rfl
        rotate_left
        · simp only [Act.put, List.setIfInBounds_toArray, List.set_cons_zero, List.set_cons_succ, i64_w, i32_w]
          rfl
        refine pure_ (i := 4) (N := some 43) (v := ?_) (a' := ?_) #[true, true, true, false, true, false, false, false, false, false, false, false, false, false, false, false] rfl rfl (any_of HT_.out (by kernel_rfl)) (fun _ _ _ h => h) (Or.inl ⟨by rfl, ?_⟩) ?_ ?_
        rotate_left
        · intro w'
          go_simp
          with_reducible rfl
        rotate_left
        · simp only [Act.put, List.setIfInBounds_toArray, List.set_cons_zero, List.set_cons_succ, i64_w, i32_w]
          rfl
        refine pure_ (i := 5) (N := some 44) (v := ?_) (a' := ?_) #[true, true, true, false, true, true, false, false, false, false, false, false, false, false, false, false] rfl rfl (any_of HT_.out (by kernel_rfl)) (fun _ _ _ h => h) (Or.inl ⟨by rfl, ?_⟩) ?_ ?_
        rotate_left
        · intro w'
          go_simp
          with_reducible rfl
        rotate_left
        · simp only [Act.put, List.setIfInBounds_toArray, List.set_cons_zero, List.set_cons_succ, i64_w, i32_w]
          rfl
        refine pure_ (i := 6) (N := some 45) (v := ?_) (a' := ?_) #[true, true, true, false, true, true, true, false, false, false, false, false, false, false, false, false] rfl rfl (any_of HT_.out (by kernel_rfl)) (fun _ _ _ h => h) (Or.inl ⟨by rfl, ?_⟩) ?_ ?_
        rotate_left
        · intro w'
          go_simp
          with_reducible rfl
        rotate_left
        · simp only [Act.put, List.setIfInBounds_toArray, List.set_cons_zero, List.set_cons_succ, i64_w, i32_w]
          rfl
        refine pure_ (i := 7) (N := some 46) (v := ?_) (a' := ?_) #[true, true, true, false, true, true, true, true, false, false, false, false, false, false, false, false] rfl rfl (any_of HT_.out (by kernel_rfl)) (fun _ _ _ h => h) (Or.inl ⟨by rfl, ?_⟩) ?_ ?_
        rotate_left
        · intro w'
          go_simp
          with_reducible rfl
        rotate_left
        · simp only [Act.put, List.setIfInBounds_toArray, List.set_cons_zero, List.set_cons_succ, i64_w, i32_w]
          rfl
        refine pure_ (i := 8) (N := some 47) (v := ?_) (a' := ?_) #[true, true, true, false, true, true, true, true, true, false, false, false, false, false, false, false] rfl rfl (any_of HT_.out (by kernel_rfl)) (fun _ _ _ h => h) (Or.inl ⟨by rfl, ?_⟩) ?_ ?_
        rotate_left
        · intro w'
          go_simp
          with_reducible rfl
        rotate_left
        · simp only [Act.put, List.setIfInBounds_toArray, List.set_cons_zero, List.set_cons_succ, i64_w, i32_w]
          rfl
        refine pure_ (i := 9) (N := some 48) (v := ?_) (a' := ?_) #[true, true, true, false, true, true, true, true, true, true, false, false, false, false, false, false] rfl rfl (any_of HT_.out (by kernel_rfl)) (fun _ _ _ h => h) (Or.inl ⟨by rfl, ?_⟩) ?_ ?_
        rotate_left
        · intro w'
          go_simp
          with_reducible rfl
        rotate_left
        · simp only [Act.put, List.setIfInBounds_toArray, List.set_cons_zero, List.set_cons_succ, i64_w, i32_w]
          rfl
        refine pure_ (i := 10) (N := some 49) (v := ?_) (a' := ?_) #[true, true, true, false, true, true, true, true, true, true, true, false, false, false, false, false] rfl rfl (any_of HT_.out (by kernel_rfl)) (fun _ _ _ h => h) (Or.inl ⟨by rfl, ?_⟩) ?_ ?_
        rotate_left
        · intro w'
          go_simp
          with_reducible rfl
        rotate_left
        · simp only [Act.put, List.setIfInBounds_toArray, List.set_cons_zero, List.set_cons_succ, i64_w, i32_w]
          rfl
        refine pure_ (i := 11) (N := some 50) (v := ?_) (a' := ?_) #[true, true, true, false, true, true, true, true, true, true, true, true, false, false, false, false] rfl rfl (any_of HT_.out (by kernel_rfl)) (fun _ _ _ h => h) (Or.inl ⟨by rfl, ?_⟩) ?_ ?_
        rotate_left
        · intro w'
          go_simp
          with_reducible rfl
        rotate_left
        · simp only [Act.put, List.setIfInBounds_toArray, List.set_cons_zero, List.set_cons_succ, i64_w, i32_w]
          rfl
        refine take_ (i := 3) (N := some 42) (v := ?_) (a' := ?_) #[true, true, true, true, true, true, true, true, true, true, true, true, false, false, false, false] rfl rfl (take_ofW HT_.out HW_.out (by kernel_rfl)) (fun _ _ _ h => h) (Or.inl ⟨by rfl, ?_⟩) hHeld ?_ ?_
        rotate_left
        · intro w' sA
          have q_ : w'.cell? (adN.add i) = some (.string nm) := sA
          clear sA
          go_simp
          with_reducible rfl
        rotate_left
        · simp only [Act.put, List.setIfInBounds_toArray, List.set_cons_zero, List.set_cons_succ, i64_w, i32_w]
          rfl
        refine join_ (σ := Value × Nat) 1 #[true, true, true, true, true, true, true, true, true, true, true, true, true, true, true, false] (fun s_ => [(51, s_.1), (52, .agg #[.int .i64 r1, .int .i64 r2, .string r3, .bool r4, .int .i64 r5]), (10, .pointer (some ⟨s_.2, 0, none⟩))]) (fun s_ w' => Aside0 (w'.heap[gA]? = some (.cells (cs5 r1 r2 r3 r4 r5) 24 (0, 0))) ∧ Aside0 (w'.heap[s_.2]? = some (.cells (cs5 0 0 (⟨#[]⟩ : ByteArray) false 0) 24 (0, 0))) ∧ Aside0 (wN.heap.size ≤ s_.2) ∧ gA ≠ s_.2 ∧ Aside0 (Below wN.heap.size wN w')) ?cont (fun hcont => ?_)
        rotate_left
        · refine two_ (i := 12) (j := 14) (Ni := some 51) (Nj := some 10) #[true, true, true, true, true, true, true, true, true, true, true, true, true, false, false, false] #[true, true, true, true, true, true, true, true, true, true, true, true, false, false, true, false] rfl rfl rfl rfl (two_of HT_.out (by kernel_rfl)) (by decide) (by decide) (fun K hK => ?_) (fun K hK => ?_)
          · refine Kd.N_lit_step k44 _ 44 (by rfl) (N' := 51) rfl (xs := [(⟨true, l1⟩ : S44), (⟨true, l2⟩ : S44)]) (inner := [.bool true, .slice Ao l1.length co, .bool true, .slice A2 l2.length c2]) (ok := (fun _ => True)) (okp := (fun _ => True)) ?hr ?hp (fun _ hk => hk) trivial (Below.refl _ _) (Nat.le_refl _) (by simp) ?_
            (case hr => first | (go_simp; done) | (go_simp; rfl))
            (case hp => exact (Reps.c2 (show Kd.FK k44 _ _ (⟨true, l1⟩ : S44) [.bool true, .slice Ao l1.length co] from (k44_mkF _ _ (⟨true, l1⟩ : S44) HLE1.out (Kd.F_below HF1.out (by repeat (first | (with_reducible first | exact HB.out | apply bA | apply below_drew | apply bN | apply bD | refine below_set ?_ GEA.out) | exact HB.out))))) (Reps.c2 (show Kd.FK k44 _ _ (⟨true, l2⟩ : S44) [.bool true, .slice A2 l2.length c2] from (k44_mkF _ _ (⟨true, l2⟩ : S44) HLE2.out (Kd.F_below HF2.out (by repeat (first | (with_reducible first | exact HB.out | apply bA | apply below_drew | apply bN | apply bD | refine below_set ?_ GEA.out) | exact HB.out))))) (Reps.none _ _))))
            intro v_ wP ho hb hg_ hnew_
            clear hg_ hnew_
            obtain ⟨Ap, cp, ep, lp, rp⟩ := Kd.N_reads ho
            subst ep
            have HRP := Aside0.mk rp
            have HLP := Aside0.mk lp
            have mA_ := Aside0.mk (blk_below BKA.out hb)
            have n0_ := Aside0.mk (below_step HB.out hb)
            clear HB BKA
            have BKA := mA_
            have HB := n0_
            clear n0_ mA_ hb
            clear ho lp rp
            refine hK.out _ _ ((HB.out.cell (World.block_lt_of_cell? wN _ hN0.out)).trans hN0.out) (fun hHeld => ?_)
            clear hK K
            refine norm_ (a' := ?_) ?_ ?_
            rotate_left
            · show Act.put _ (some 51) _ = _
              simp only [Act.put, List.setIfInBounds_toArray, List.set_cons_zero, List.set_cons_succ, i64_w, i32_w]
              rfl
            refine two_ (i := 13) (j := 14) (Ni := some 52) (Nj := some 10) #[true, true, true, true, true, true, true, true, true, true, true, true, true, true, false, false] #[true, true, true, true, true, true, true, true, true, true, true, true, true, false, true, false] rfl rfl rfl rfl (two_of HT_.out (by kernel_rfl)) (by decide) (by decide) (fun K hK => ?_) (fun K hK => ?_)
            · refine goes_ Tryz.func28 (by kernel_rfl) rfl #[.string nm, .slice Ap 2 cp] (by rfl) rfl rfl (by (try simp only [List.map_toArray, List.map_cons, List.map_nil]); first | done | rfl) ?_
              refine (call_all (hL := ⟨hL.out.below (below_then HW.out HW.out.size (by repeat (first | (with_reducible first | exact HB.out | apply bA | apply below_drew | apply bN | apply bD | refine below_set ?_ GEA.out) | exact HB.out)))⟩) k2_ nm HAR.out _ _ [(⟨true, l1⟩ : S44), (⟨true, l2⟩ : S44)] (show 2 ≤ 810000 by decide) r1 r2 r3 r4 r5 _ ?side1 ?side2 HK2.out).mono ?_
              (case side1 => exact HRP.out)
              (case side2 => exact HLP.out)
              rintro e_ wQ ⟨rfl, hb⟩
              refine ⟨_, rfl, ?_⟩
              clear HRP HLP
              have mA_ := Aside0.mk (blk_below BKA.out hb)
              have n0_ := Aside0.mk (below_step HB.out hb)
              clear HB BKA
              have BKA := mA_
              have HB := n0_
              clear n0_ mA_ hb
              refine hK.out _ _ ((HB.out.cell (World.block_lt_of_cell? wN _ hN0.out)).trans hN0.out) (fun hHeld => ?_)
              clear hK K
              refine norm_ (a' := ?_) ?_ ?_
              rotate_left
              · show Act.put _ (some 52) _ = _
                simp only [Act.put, List.setIfInBounds_toArray, List.set_cons_zero, List.set_cons_succ, i64_w, i32_w]
                rfl
              refine one_ (i := 14) (N := some 10) #[true, true, true, true, true, true, true, true, true, true, true, true, true, true, true, false] rfl rfl (one_of HT_.out (by kernel_rfl)) (by decide) (fun K hK => ?_)
              refine box_step (by rfl) (N := 10) rfl (cs := cs5 0 0 (⟨#[]⟩ : ByteArray) false 0) (t := 24) ?hr ?_
              (case hr => first | (go_simp; done) | (go_simp; rfl))
              intro gT hg wT hbox hb
              have GET : Aside0 (wN.heap.size ≤ gT) := ⟨by rw [hg]; exact below_size HB.out⟩
              have NEAT : gA ≠ gT := by rw [hg]; exact Nat.ne_of_lt (blk_lt BKA.out)
              have mT_ := Aside0.mk hbox
              have mA_ := Aside0.mk (blk_below BKA.out hb)
              have n0_ := Aside0.mk (below_step HB.out hb)
              clear HB BKA
              have BKA := mA_
              have HB := n0_
              clear n0_ mA_ hb
              have BKT := mT_
              clear mT_ hbox hg
              refine hK.out _ _ ((HB.out.cell (World.block_lt_of_cell? wN _ hN0.out)).trans hN0.out) (fun hHeld => ?_)
              clear hK K
              refine norm_ (a' := ?_) ?_ ?_
              rotate_left
              · show Act.put _ (some 10) _ = _
                simp only [Act.put, List.setIfInBounds_toArray, List.set_cons_zero, List.set_cons_succ, i64_w, i32_w]
                rfl
              exact hcont (_, gT) _ ⟨BKA, BKT, GET, NEAT, HB⟩
            · refine box_step (by rfl) (N := 10) rfl (cs := cs5 0 0 (⟨#[]⟩ : ByteArray) false 0) (t := 24) ?hr ?_
              (case hr => first | (go_simp; done) | (go_simp; rfl))
              intro gT hg wT hbox hb
              have GET : Aside0 (wN.heap.size ≤ gT) := ⟨by rw [hg]; exact below_size HB.out⟩
              have NEAT : gA ≠ gT := by rw [hg]; exact Nat.ne_of_lt (blk_lt BKA.out)
              have mT_ := Aside0.mk hbox
              have mA_ := Aside0.mk (blk_below BKA.out hb)
              have mP_ := Aside0.mk (Kd.C_below HRP.out hb)
              have n0_ := Aside0.mk (below_step HB.out hb)
              clear HB BKA HRP
              have BKA := mA_
              have HRP := mP_
              have HB := n0_
              clear n0_ mA_ hb mP_
              have BKT := mT_
              clear mT_ hbox hg
              refine hK.out _ _ ((HB.out.cell (World.block_lt_of_cell? wN _ hN0.out)).trans hN0.out) (fun hHeld => ?_)
              clear hK K
              refine norm_ (a' := ?_) ?_ ?_
              rotate_left
              · show Act.put _ (some 10) _ = _
                simp only [Act.put, List.setIfInBounds_toArray, List.set_cons_zero, List.set_cons_succ, i64_w, i32_w]
                rfl
              refine one_ (i := 13) (N := some 52) #[true, true, true, true, true, true, true, true, true, true, true, true, true, true, true, false] rfl rfl (one_of HT_.out (by kernel_rfl)) (by decide) (fun K hK => ?_)
              refine goes_ Tryz.func28 (by kernel_rfl) rfl #[.string nm, .slice Ap 2 cp] (by rfl) rfl rfl (by (try simp only [List.map_toArray, List.map_cons, List.map_nil]); first | done | rfl) ?_
              refine (call_all (hL := ⟨hL.out.below (below_then HW.out HW.out.size (by repeat (first | (with_reducible first | exact HB.out | apply bA | apply below_drew | apply bN | apply bD | refine below_set ?_ GEA.out) | exact HB.out)))⟩) k2_ nm HAR.out _ _ [(⟨true, l1⟩ : S44), (⟨true, l2⟩ : S44)] (show 2 ≤ 810000 by decide) r1 r2 r3 r4 r5 _ ?side1 ?side2 HK2.out).mono ?_
              (case side1 => exact HRP.out)
              (case side2 => exact HLP.out)
              rintro e_ wQ ⟨rfl, hb⟩
              refine ⟨_, rfl, ?_⟩
              clear HRP HLP
              have mA_ := Aside0.mk (blk_below BKA.out hb)
              have mT_ := Aside0.mk (blk_below BKT.out hb)
              have n0_ := Aside0.mk (below_step HB.out hb)
              clear HB BKA BKT
              have BKA := mA_
              have BKT := mT_
              have HB := n0_
              clear n0_ mA_ hb mT_
              refine hK.out _ _ ((HB.out.cell (World.block_lt_of_cell? wN _ hN0.out)).trans hN0.out) (fun hHeld => ?_)
              clear hK K
              refine norm_ (a' := ?_) ?_ ?_
              rotate_left
              · show Act.put _ (some 52) _ = _
                simp only [Act.put, List.setIfInBounds_toArray, List.set_cons_zero, List.set_cons_succ, i64_w, i32_w]
                rfl
              exact hcont (_, gT) _ ⟨BKA, BKT, GET, NEAT, HB⟩
          · refine box_step (by rfl) (N := 10) rfl (cs := cs5 0 0 (⟨#[]⟩ : ByteArray) false 0) (t := 24) ?hr ?_
            (case hr => first | (go_simp; done) | (go_simp; rfl))
            intro gT hg wT hbox hb
            have GET : Aside0 (wN.heap.size ≤ gT) := ⟨by rw [hg]; exact below_size HB.out⟩
            have NEAT : gA ≠ gT := by rw [hg]; exact Nat.ne_of_lt (blk_lt BKA.out)
            have mT_ := Aside0.mk hbox
            have mA_ := Aside0.mk (blk_below BKA.out hb)
            have n0_ := Aside0.mk (below_step HB.out hb)
            clear HB BKA
            have BKA := mA_
            have HB := n0_
            clear n0_ mA_ hb
            have BKT := mT_
            clear mT_ hbox hg
            refine hK.out _ _ ((HB.out.cell (World.block_lt_of_cell? wN _ hN0.out)).trans hN0.out) (fun hHeld => ?_)
            clear hK K
            refine norm_ (a' := ?_) ?_ ?_
            rotate_left
            · show Act.put _ (some 10) _ = _
              simp only [Act.put, List.setIfInBounds_toArray, List.set_cons_zero, List.set_cons_succ, i64_w, i32_w]
              rfl
            refine one_ (i := 12) (N := some 51) #[true, true, true, true, true, true, true, true, true, true, true, true, true, false, true, false] rfl rfl (one_of HT_.out (by kernel_rfl)) (by decide) (fun K hK => ?_)
            refine Kd.N_lit_step k44 _ 44 (by rfl) (N' := 51) rfl (xs := [(⟨true, l1⟩ : S44), (⟨true, l2⟩ : S44)]) (inner := [.bool true, .slice Ao l1.length co, .bool true, .slice A2 l2.length c2]) (ok := (fun _ => True)) (okp := (fun _ => True)) ?hr ?hp (fun _ hk => hk) trivial (Below.refl _ _) (Nat.le_refl _) (by simp) ?_
            (case hr => first | (go_simp; done) | (go_simp; rfl))
            (case hp => exact (Reps.c2 (show Kd.FK k44 _ _ (⟨true, l1⟩ : S44) [.bool true, .slice Ao l1.length co] from (k44_mkF _ _ (⟨true, l1⟩ : S44) HLE1.out (Kd.F_below HF1.out (by repeat (first | (with_reducible first | exact HB.out | apply bA | apply below_drew | apply bN | apply bD | refine below_set ?_ GEA.out) | exact HB.out))))) (Reps.c2 (show Kd.FK k44 _ _ (⟨true, l2⟩ : S44) [.bool true, .slice A2 l2.length c2] from (k44_mkF _ _ (⟨true, l2⟩ : S44) HLE2.out (Kd.F_below HF2.out (by repeat (first | (with_reducible first | exact HB.out | apply bA | apply below_drew | apply bN | apply bD | refine below_set ?_ GEA.out) | exact HB.out))))) (Reps.none _ _))))
            intro v_ wP ho hb hg_ hnew_
            clear hg_ hnew_
            obtain ⟨Ap, cp, ep, lp, rp⟩ := Kd.N_reads ho
            subst ep
            have HRP := Aside0.mk rp
            have HLP := Aside0.mk lp
            have mA_ := Aside0.mk (blk_below BKA.out hb)
            have mT_ := Aside0.mk (blk_below BKT.out hb)
            have n0_ := Aside0.mk (below_step HB.out hb)
            clear HB BKA BKT
            have BKA := mA_
            have BKT := mT_
            have HB := n0_
            clear n0_ mA_ hb mT_
            clear ho lp rp
            refine hK.out _ _ ((HB.out.cell (World.block_lt_of_cell? wN _ hN0.out)).trans hN0.out) (fun hHeld => ?_)
            clear hK K
            refine norm_ (a' := ?_) ?_ ?_
            rotate_left
            · show Act.put _ (some 51) _ = _
              simp only [Act.put, List.setIfInBounds_toArray, List.set_cons_zero, List.set_cons_succ, i64_w, i32_w]
              rfl
            refine one_ (i := 13) (N := some 52) #[true, true, true, true, true, true, true, true, true, true, true, true, true, true, true, false] rfl rfl (one_of HT_.out (by kernel_rfl)) (by decide) (fun K hK => ?_)
            refine goes_ Tryz.func28 (by kernel_rfl) rfl #[.string nm, .slice Ap 2 cp] (by rfl) rfl rfl (by (try simp only [List.map_toArray, List.map_cons, List.map_nil]); first | done | rfl) ?_
            refine (call_all (hL := ⟨hL.out.below (below_then HW.out HW.out.size (by repeat (first | (with_reducible first | exact HB.out | apply bA | apply below_drew | apply bN | apply bD | refine below_set ?_ GEA.out) | exact HB.out)))⟩) k2_ nm HAR.out _ _ [(⟨true, l1⟩ : S44), (⟨true, l2⟩ : S44)] (show 2 ≤ 810000 by decide) r1 r2 r3 r4 r5 _ ?side1 ?side2 HK2.out).mono ?_
            (case side1 => exact HRP.out)
            (case side2 => exact HLP.out)
            rintro e_ wQ ⟨rfl, hb⟩
            refine ⟨_, rfl, ?_⟩
            clear HRP HLP
            have mA_ := Aside0.mk (blk_below BKA.out hb)
            have mT_ := Aside0.mk (blk_below BKT.out hb)
            have n0_ := Aside0.mk (below_step HB.out hb)
            clear HB BKA BKT
            have BKA := mA_
            have BKT := mT_
            have HB := n0_
            clear n0_ mA_ hb mT_
            refine hK.out _ _ ((HB.out.cell (World.block_lt_of_cell? wN _ hN0.out)).trans hN0.out) (fun hHeld => ?_)
            clear hK K
            refine norm_ (a' := ?_) ?_ ?_
            rotate_left
            · show Act.put _ (some 52) _ = _
              simp only [Act.put, List.setIfInBounds_toArray, List.set_cons_zero, List.set_cons_succ, i64_w, i32_w]
              rfl
            exact hcont (_, gT) _ ⟨BKA, BKT, GET, NEAT, HB⟩
        intro s_ w2 hF_
        obtain ⟨vp, gT⟩ := s_
        obtain ⟨BKA, BKT, GET, NEAT, HB⟩ := hF_
        refine norm_ (a' := ?_) ?_ ?_
        rotate_left
        · simp only [putAll, Act.put, List.setIfInBounds_toArray, List.set_cons_zero, List.set_cons_succ]
          rfl
        obtain ⟨zT0, zT1, zT2, zT3, zT4, zTf0, zTf1, zTf2, zTf3, zTf4⟩ := five BKT.out
        obtain ⟨w3, hw3⟩ : ∃ w3, w3 = ((((w2.setCell ⟨gT, 0, none⟩ (.int .i64 r1)).setCell ⟨gT, 1, none⟩ (.int .i64 r2)).setCell ⟨gT, 2, none⟩ (.string r3)).setCell ⟨gT, 3, none⟩ (.bool r4)).setCell ⟨gT, 4, none⟩ (.int .i64 r5) := ⟨_, rfl⟩
        refine one_ (i := 15) (N := none) #[true, true, true, true, true, true, true, true, true, true, true, true, true, true, true, true] rfl rfl (one_of HT_.out (by kernel_rfl)) (by decide) (fun K hK => ?_)
        refine skip_ (w1 := w3) (by rfl) rfl ?_ ?_
        · rw [hw3]
          first | (go_simp; done) | (go_simp; rfl)
        have mT_ : Aside0 (w3.heap[gT]? = some (.cells (cs5 r1 r2 r3 r4 r5) 24 (0, 0))) := ⟨by rw [hw3]; exact vput BKT.out _ _ _ _ _⟩
        have mA_ : Aside0 (w3.heap[gA]? = some (.cells (cs5 r1 r2 r3 r4 r5) 24 (0, 0))) := ⟨by rw [hw3]; exact vfar BKA.out NEAT _ _ _ _ _⟩
        have n0_ : Aside0 (Below wN.heap.size wN w3) := ⟨by rw [hw3]; exact vbel HB.out GET.out _ _ _ _ _⟩
        clear BKT BKA HB hw3 zT0 zT1 zT2 zT3 zT4 zTf0 zTf1 zTf2 zTf3 zTf4
        have BKT := mT_
        have BKA := mA_
        have HB := n0_
        clear mT_ mA_ n0_
        refine hK.out _ _ ((HB.out.cell (World.block_lt_of_cell? wN _ hN0.out)).trans hN0.out) (fun hHeld => ?_)
        clear hK K
        refine done_ (done_of HT_.out (by kernel_rfl)) ?_
        obtain ⟨zA0, zA1, zA2, zA3, zA4, zAf0, zAf1, zAf2, zAf3, zAf4⟩ := five BKA.out
        obtain ⟨zT0, zT1, zT2, zT3, zT4, zTf0, zTf1, zTf2, zTf3, zTf4⟩ := five BKT.out
        by_cases ce : 0 < e0
        · have de : decide (0 < e0) = true := decide_eq_true ce
          have hq := HRR.out ce
          simp only [Prod.mk.injEq] at hq
          obtain ⟨rfl, rfl, rfl, rfl, rfl⟩ := hq
          clear ce
          go_wp2_with (first | ((with_reducible refine gate_callee (f := 14) rfl ?_); (try (refine gate_guard (by rfl) ?_; dsimp only)); refine goesL_ (some 55) rfl rfl Tryz.func14 (by kernel_rfl) rfl #[.agg #[.int .i64 4, .int .i64 0, .string (⟨#[]⟩ : ByteArray), .bool false, .int .i64 r5], .agg #[.int .i64 4, .int .i64 0, .string (⟨#[]⟩ : ByteArray), .bool false, .int .i64 r5]] rfl (by (try simp only [List.map_toArray, List.map_cons, List.map_nil]); first | done | rfl) ?_; (refine (counterpaneref1_Eq.calls 4 0 (⟨#[]⟩ : ByteArray) false r5 4 0 (⟨#[]⟩ : ByteArray) false r5 true _ (eq_self 4 0 (⟨#[]⟩ : ByteArray) false r5)).mono ?_); rintro e_ v1 ⟨rfl, hb⟩; refine ⟨_, rfl, ?_⟩; have mA_ := Aside0.mk (blk_below (by (with_reducible repeat (first | refine blk_drewN ?_ _ | refine blk_drew ?_ | refine blk_alloc ?_ _)); exact BKA.out) hb); have mT_ := Aside0.mk (blk_below (by (with_reducible repeat (first | refine blk_drewN ?_ _ | refine blk_drew ?_ | refine blk_alloc ?_ _)); exact BKT.out) hb); have n0_ := Aside0.mk (below_step (by repeat (first | (with_reducible first | exact HB.out | apply bA | apply below_drew | apply bN | apply bD | refine below_set ?_ GEA.out | refine below_set ?_ GET.out) | exact HB.out)) hb); clear HB BKA BKT; have HB := n0_; have BKA := mA_; have BKT := mT_; clear n0_ mA_ mT_ hb; clear zA0 zAf0 zA1 zAf1 zA2 zAf2 zA3 zAf3 zA4 zAf4; clear zT0 zTf0 zT1 zTf1 zT2 zTf2 zT3 zTf3 zT4 zTf4; obtain ⟨zA0, zA1, zA2, zA3, zA4, zAf0, zAf1, zAf2, zAf3, zAf4⟩ := five BKA.out; obtain ⟨zT0, zT1, zT2, zT3, zT4, zTf0, zTf1, zTf2, zTf3, zTf4⟩ := five BKT.out))
          go_roundg k2
          (case measure => omega)
          (case rel => exact ⟨i + 1, by first | rfl | (simp; done), by omega, ⟨by have := HI.out; omega⟩, ⟨(by repeat (first | (with_reducible first | exact HB.out | apply bA | apply below_drew | apply bN | apply bD) | exact HB.out))⟩⟩)
        · have de : decide (0 < e0) = false := decide_eq_false ce
          clear ce
          go_wp2_with (first | ((with_reducible refine gate_callee (f := 14) rfl ?_); (try (refine gate_guard (by rfl) ?_; dsimp only)); refine goesL_ (some 55) rfl rfl Tryz.func14 (by kernel_rfl) rfl #[.agg #[.int .i64 r1, .int .i64 r2, .string r3, .bool r4, .int .i64 r5], .agg #[.int .i64 r1, .int .i64 r2, .string r3, .bool r4, .int .i64 r5]] rfl (by (try simp only [List.map_toArray, List.map_cons, List.map_nil]); first | done | rfl) ?_; (refine (counterpaneref1_Eq.calls r1 r2 r3 r4 r5 r1 r2 r3 r4 r5 true _ (eq_self r1 r2 r3 r4 r5)).mono ?_); rintro e_ v1 ⟨rfl, hb⟩; refine ⟨_, rfl, ?_⟩; have mA_ := Aside0.mk (blk_below (by (with_reducible repeat (first | refine blk_drewN ?_ _ | refine blk_drew ?_ | refine blk_alloc ?_ _)); exact BKA.out) hb); have mT_ := Aside0.mk (blk_below (by (with_reducible repeat (first | refine blk_drewN ?_ _ | refine blk_drew ?_ | refine blk_alloc ?_ _)); exact BKT.out) hb); have n0_ := Aside0.mk (below_step (by repeat (first | (with_reducible first | exact HB.out | apply bA | apply below_drew | apply bN | apply bD | refine below_set ?_ GEA.out | refine below_set ?_ GET.out) | exact HB.out)) hb); clear HB BKA BKT; have HB := n0_; have BKA := mA_; have BKT := mT_; clear n0_ mA_ mT_ hb; clear zA0 zAf0 zA1 zAf1 zA2 zAf2 zA3 zAf3 zA4 zAf4; clear zT0 zTf0 zT1 zTf1 zT2 zTf2 zT3 zTf3 zT4 zTf4; obtain ⟨zA0, zA1, zA2, zA3, zA4, zAf0, zAf1, zAf2, zAf3, zAf4⟩ := five BKA.out; obtain ⟨zT0, zT1, zT2, zT3, zT4, zTf0, zTf1, zTf2, zTf3, zTf4⟩ := five BKT.out))
          go_roundg k2
          (case measure => omega)
          (case rel => exact ⟨i + 1, by first | rfl | (simp; done), by omega, ⟨by have := HI.out; omega⟩, ⟨(by repeat (first | (with_reducible first | exact HB.out | apply bA | apply below_drew | apply bN | apply bD) | exact HB.out))⟩⟩)
      · have d0 : decide ((i : Int) < 5) = false := decide_eq_false (by omega)
        go_wp2
        go_ret
        exact ⟨by first | rfl | (simp; done), below_then HW.out HW.out.size (by repeat (first | (with_reducible first | exact HB.out | apply bA | apply below_drew | apply bN | apply bD) | exact HB.out))⟩
theorem builtinWorst_walk (w : World) (hL : Aside0 (Lq w)) (A0 : Option Addr) (c0 : Nat) (l0 : List S24) (hr0 : Kd.C k24 w A0 l0.length l0) (hc0 : l0.length ≤ c0) (hi : ∀ x ∈ l0, (Lit.int .i64 x.f1).wf = true) (cut : Int) :
    Calls Tryz.prog 5 #[.slice A0 l0.length c0, .int .i64 cut] w fun e w' => e = .returned (.bool true) ∧ Below w.heap.size w w' := builtinWorst_in A0 c0 l0 cut w hL hr0 hc0 (fun x hx => nat_wf2 (hi x hx))
end Go.Proofs.YtfnbflhoaemmeaaGreatDoor.EBui
end
