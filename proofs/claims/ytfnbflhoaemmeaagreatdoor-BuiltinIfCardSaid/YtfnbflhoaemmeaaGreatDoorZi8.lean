/- Part 8 of what the claim's proof stands on: contracts of the program's functions, by walks, and plain laws. -/
import Derived.Test.YtfnbflhoaemmeaaGreatDoorZi7
import Derived.WalkKit
section
namespace Go.Proofs.YtfnbflhoaemmeaaGreatDoor.EBui
open Go.RowKit Go.Lib Go.Proofs.YtfnbflhoaemmeaaGreatDoorW.PrintWords Go.Proofs.YtfnbflhoaemmeaaGreatDoorW.PrintLast Go.Proofs.YtfnbflhoaemmeaaGreatDoorW.PrintMore Go.Proofs.YtfnbflhoaemmeaaGreatDoor.Ext Go.Proofs.YtfnbflhoaemmeaaGreatDoor.EFxA Go.Proofs.YtfnbflhoaemmeaaGreatDoor.EFix Go.Proofs.YtfnbflhoaemmeaaGreatDoor.EVal
attribute [local go_sem] max2_int min2_int max_two min_two max_three min_three max_four min_four
set_option linter.unusedVariables false
set_option linter.unusedSimpArgs false
theorem may_num (n : Int) : mayS (1, n, (⟨#[]⟩ : ByteArray), false, 0) = true := by
  unfold mayS
  rfl
theorem sum_begun : ∃ k, builtin_all.f k (⟨#[83, 85, 77]⟩ : ByteArray) [⟨true, [(⟨1, 10000, (⟨#[]⟩ : ByteArray), false, 0⟩ : S24), (⟨2, 0, (⟨#[120]⟩ : ByteArray), false, 0⟩ : S24)]⟩, ⟨false, [(⟨1, 5000, (⟨#[]⟩ : ByteArray), false, 0⟩ : S24)]⟩] = some (1, 15000, (⟨#[]⟩ : ByteArray), false, 0) := by
  obtain ⟨r, h1, h2, h3⟩ := all_eq (⟨#[83, 85, 77]⟩ : ByteArray) (by decide) ([10000, 5000], 0) (by decide) (by intro a ha; simp at ha; unfold int64; omega)
  have hs : sumS ([10000, 5000] : List Int).sum = (15000, true) := by decide
  have hr := h2 (by decide) rfl (by rw [hs])
  rw [hs] at hr
  subst hr
  refine h3 _ ?_ (by decide) ?_
  · intro a ha
    have q0 : ((⟨#[]⟩ : ByteArray)).size ≤ 1000 := by decide
    have q1 : ((⟨#[120]⟩ : ByteArray)).size ≤ 1000 := by decide
    simp only [List.mem_cons, List.not_mem_nil, or_false] at ha
    rcases ha with rfl | rfl
    · refine ⟨fun x hx => ?_, by decide⟩
      simp only [List.mem_cons, List.not_mem_nil, or_false] at hx
      rcases hx with rfl | rfl
      · exact q0
      · exact q1
    · refine ⟨fun x hx => ?_, by decide⟩
      simp only [List.mem_cons, List.not_mem_nil, or_false] at hx
      subst hx
      exact q0
  · have e1 : ∀ p : List Int × Int, ∀ n : Int, stepA p ⟨1, n, (⟨#[]⟩ : ByteArray), false, 0⟩ = (p.1 ++ [n], p.2) := by
      intro p n
      rw [stepA_eq, if_pos ⟨rfl, may_num n⟩]
      unfold errX wst
      rw [if_neg (by simp)]
    have e2 : ∀ p : List Int × Int, stepA p (⟨2, 0, (⟨#[120]⟩ : ByteArray), false, 0⟩ : S24) = p := by
      intro p
      rw [stepA_eq, if_neg (by simp)]
      unfold errX wst
      rw [if_neg (by simp)]
    show stepA (stepA (stepA ([], 0) (⟨1, 10000, (⟨#[]⟩ : ByteArray), false, 0⟩ : S24)) (⟨2, 0, (⟨#[120]⟩ : ByteArray), false, 0⟩ : S24)) (⟨1, 5000, (⟨#[]⟩ : ByteArray), false, 0⟩ : S24) = _
    rw [e1, e2, e1]
    rfl
theorem run_field1 (k n : Int) (t : ByteArray) (b : Bool) (e : Int) (w : World) : Sem.run Tryz.prog (Instr.field 24 (.agg #[.int .i64 k, .int .i64 n, .string t, .bool b, .int .i64 e]) 1) w = .ok (.int .i64 n) w := by kernel_rfl
attribute [local go_sem] run_field1
set_option maxHeartbeats 8000000 in
set_option maxRecDepth 100000 in
theorem begun12 (w : World) (hL : Aside0 (Lq w)) :
    Calls Tryz.prog 25 #[] w fun e w' => e = .returned (.bool true) ∧ Below w.heap.size w w' := by
  have hu44 := Tryz.underlying44
  have hu24 := Tryz.underlying24
  have HB := Aside0.mk (Below.refl w.heap.size w)
  obtain ⟨k, a4⟩ := sum_begun
  obtain ⟨y499, hy499⟩ : ∃ y_ : List (S24), y_ = [(⟨1, 10000, (⟨#[]⟩ : ByteArray), false, 0⟩ : S24), (⟨2, 0, (⟨#[120]⟩ : ByteArray), false, 0⟩ : S24)] := ⟨_, rfl⟩
  obtain ⟨y507, hy507⟩ : ∃ y_ : List (S24), y_ = [(⟨1, 5000, (⟨#[]⟩ : ByteArray), false, 0⟩ : S24)] := ⟨_, rfl⟩
  obtain ⟨y510, hy510⟩ : ∃ y_ : List (S44), y_ = [(⟨true, y499⟩ : S44), (⟨false, y507⟩ : S44)] := ⟨_, rfl⟩
  have A4 : Aside0 (builtin_all.f k (⟨#[83, 85, 77]⟩ : ByteArray) y510 = some (1, 15000, (⟨#[]⟩ : ByteArray), false, 0)) := ⟨by rw [hy510, hy499, hy507]; exact a4⟩
  have HY : Aside0 (y510.length ≤ 810000) := ⟨by rw [hy510]; exact (by decide : 2 ≤ 810000)⟩
  have Ny499 := Aside0.mk hy499
  have Ny507 := Aside0.mk hy507
  have Ny510 := Aside0.mk hy510
  clear hy499 hy507 hy510 a4
  go_enter Tryz.func25, Tryz.ntmps25
  go_wp2_with (first | ((with_reducible refine gate_callee (f := 34) rfl ?_); refine goesL_ (some 3) rfl rfl Tryz.func34 (by kernel_rfl) rfl #[.int .i64 10000] rfl (by (try simp only [List.map_toArray, List.map_cons, List.map_nil]); first | done | rfl) ?_; (with_reducible refine (counterpaneref1_Num.calls 10000 1 10000 (⟨#[]⟩ : ByteArray) false 0 _ rfl).mono ?_); rintro e w39 ⟨rfl, hb⟩; refine ⟨_, rfl, ?_⟩; have n0_ := Aside0.mk (below_step (by repeat (first | (with_reducible first | exact HB.out | apply bA | apply bN | apply bD) | exact HB.out)) hb); clear HB; have HB := n0_; clear n0_; (try clear hb); (try clear hb2); (try clear hk); (try clear hi)) | ((with_reducible refine gate_callee (f := 33) rfl ?_); refine goesL_ (some 4) rfl rfl Tryz.func33 (by kernel_rfl) rfl #[.string (⟨#[120]⟩ : ByteArray)] rfl (by (try simp only [List.map_toArray, List.map_cons, List.map_nil]); first | done | rfl) ?_; (with_reducible refine (counterpaneref1_Txt.calls (⟨#[120]⟩ : ByteArray) 2 0 (⟨#[120]⟩ : ByteArray) false 0 _ rfl).mono ?_); rintro e w40 ⟨rfl, hb⟩; refine ⟨_, rfl, ?_⟩; have n0_ := Aside0.mk (below_step (by repeat (first | (with_reducible first | exact HB.out | apply bA | apply bN | apply bD) | exact HB.out)) hb); clear HB; have HB := n0_; clear n0_; (try clear hb); (try clear hb2); (try clear hk); (try clear hi)) | ((with_reducible refine gate_dst (N := 5) rfl ?_); refine Kd.R_lit k24 _ 24 ?hg (N := 5) ?hd (xs := ([(⟨1, 10000, (⟨#[]⟩ : ByteArray), false, 0⟩ : S24), (⟨2, 0, (⟨#[120]⟩ : ByteArray), false, 0⟩ : S24)] : List (S24))) (inner := [.int .i64 1, .int .i64 10000, .string (⟨#[]⟩ : ByteArray), .bool false, .int .i64 0, .int .i64 2, .int .i64 0, .string (⟨#[120]⟩ : ByteArray), .bool false, .int .i64 0]) (ok := fun _ => True) (okp := fun _ => True) ?hr ?hp (fun _ hk => hk) trivial (Below.refl _ _) (Nat.le_refl _) (by simp) ?_; (case hd => rfl); (case hg => rfl); (case hr => first | (go_simp; done) | (go_simp; rfl)); (case hp => exact (Reps.c5 (show Kd.M k24 _ _ _ (⟨1, 10000, (⟨#[]⟩ : ByteArray), false, 0⟩ : S24) [.int .i64 1, .int .i64 10000, .string (⟨#[]⟩ : ByteArray), .bool false, .int .i64 0] from (k24_mkM _ _ _ (⟨1, 10000, (⟨#[]⟩ : ByteArray), false, 0⟩ : S24) )) (Reps.c5 (show Kd.M k24 _ _ _ (⟨2, 0, (⟨#[120]⟩ : ByteArray), false, 0⟩ : S24) [.int .i64 2, .int .i64 0, .string (⟨#[120]⟩ : ByteArray), .bool false, .int .i64 0] from (k24_mkM _ _ _ (⟨2, 0, (⟨#[120]⟩ : ByteArray), false, 0⟩ : S24) )) (Reps.none _ _)))); intro v500 w41 ho42 hb hg_ hnew_; clear hg_ hnew_; (first | rw [← Ny499.out] at ho42 | (simp only [Int.reduceToNat] at ho42; rw [← Ny499.out] at ho42)); have n0_ := Aside0.mk (Kd.R_lower ho42 (below_size (by repeat (first | (with_reducible first | exact HB.out | apply bA | apply bN | apply bD) | exact HB.out)))); have n1_ := Aside0.mk (below_step (by repeat (first | (with_reducible first | exact HB.out | apply bA | apply bN | apply bD) | exact HB.out)) hb); clear HB; have HO501 := n0_; have HB := n1_; clear n0_ n1_; clear hb ho42; obtain ⟨Ao43, co43, eo43⟩ := Kd.R_slice HO501.out; subst eo43) | ((with_reducible refine gate_callee (f := 34) rfl ?_); refine goesL_ (some 7) rfl rfl Tryz.func34 (by kernel_rfl) rfl #[.int .i64 5000] rfl (by (try simp only [List.map_toArray, List.map_cons, List.map_nil]); first | done | rfl) ?_; (with_reducible refine (counterpaneref1_Num.calls 5000 1 5000 (⟨#[]⟩ : ByteArray) false 0 _ rfl).mono ?_); rintro e w44 ⟨rfl, hb⟩; refine ⟨_, rfl, ?_⟩; have n0_ := Aside0.mk (Kd.R_below (by (with_reducible repeat (first | apply Kd.R_alloc | apply Kd.R_drewN | apply Kd.R_drew)); exact HO501.out) hb); have n1_ := Aside0.mk (below_step (by repeat (first | (with_reducible first | exact HB.out | apply bA | apply bN | apply bD) | exact HB.out)) hb); clear HO501; clear HB; have HO501 := n0_; have HB := n1_; clear n0_ n1_; (try clear hb); (try clear hb2); (try clear hk); (try clear hi)) | ((with_reducible refine gate_dst (N := 8) rfl ?_); refine Kd.R_lit k24 _ 24 ?hg (N := 8) ?hd (xs := ([(⟨1, 5000, (⟨#[]⟩ : ByteArray), false, 0⟩ : S24)] : List (S24))) (inner := [.int .i64 1, .int .i64 5000, .string (⟨#[]⟩ : ByteArray), .bool false, .int .i64 0]) (ok := fun _ => True) (okp := fun _ => True) ?hr ?hp (fun _ hk => hk) trivial (Below.refl _ _) (Nat.le_refl _) (by simp) ?_; (case hd => rfl); (case hg => rfl); (case hr => first | (go_simp; done) | (go_simp; rfl)); (case hp => exact (Reps.c5 (show Kd.M k24 _ _ _ (⟨1, 5000, (⟨#[]⟩ : ByteArray), false, 0⟩ : S24) [.int .i64 1, .int .i64 5000, .string (⟨#[]⟩ : ByteArray), .bool false, .int .i64 0] from (k24_mkM _ _ _ (⟨1, 5000, (⟨#[]⟩ : ByteArray), false, 0⟩ : S24) )) (Reps.none _ _))); intro v508 w45 ho46 hb hg_ hnew_; clear hg_ hnew_; (first | rw [← Ny507.out] at ho46 | (simp only [Int.reduceToNat] at ho46; rw [← Ny507.out] at ho46)); have n0_ := Aside0.mk (Kd.R_elder' (by (with_reducible repeat (first | apply Kd.R_alloc | apply Kd.R_drewN | apply Kd.R_drew)); exact HO501.out) (Kd.R_base ho46) hb); have n1_ := Aside0.mk (Kd.R_lower (Kd.R_new' ho46 (Kd.R_lt (by (with_reducible repeat (first | apply Kd.R_alloc | apply Kd.R_drewN | apply Kd.R_drew)); exact HO501.out))) (below_size (by repeat (first | (with_reducible first | exact HB.out | apply bA | apply bN | apply bD) | exact HB.out)))); have n2_ := Aside0.mk (below_step (by repeat (first | (with_reducible first | exact HB.out | apply bA | apply bN | apply bD) | exact HB.out)) hb); clear HO501; clear HB; have HO501 := n0_; have HO509 := n1_; have HB := n2_; clear n0_ n1_ n2_; clear hb ho46; obtain ⟨Ao47, co47, eo47⟩ := Kd.R_slice HO509.out; subst eo47) | ((with_reducible refine gate_dst (N := 10) rfl ?_); refine Kd.N_lit k44 _ 44 ?hg (N' := 10) ?hd (xs := ([(⟨true, y499⟩ : S44), (⟨false, y507⟩ : S44)] : List (S44))) (inner := [.bool true, .slice Ao43 y499.length co43, .bool false, .slice Ao47 y507.length co47]) (ok := (fun _ => True)) (okp := (fun _ => True)) ?hr ?hp (fun _ hk => hk) ((show ∀ k_, w45.heap.size ≤ k_ → (fun _ => True) k_ from fun k_ hk => trivial) _ (Nat.le_refl _)) (Below.refl _ _) (Nat.le_refl _) (by simp) ?_; (case hd => rfl); (case hg => rfl); (case hr => first | (go_simp; done) | (go_simp; rfl)); (case hp => exact (Reps.c2 (show Kd.FK k44 _ _ (⟨true, y499⟩ : S44) [.bool true, .slice Ao43 y499.length co43] from (k44_mkF _ _ (⟨true, y499⟩ : S44) (Kd.R_reads' (Kd.R_mono (ok' := (fun _ => True)) (HO501.out) (fun k_ hk => trivial))).2.1 (Kd.R_F (Kd.R_mono (ok' := (fun _ => True)) (HO501.out) (fun k_ hk => trivial))))) (Reps.c2 (show Kd.FK k44 _ _ (⟨false, y507⟩ : S44) [.bool false, .slice Ao47 y507.length co47] from (k44_mkF _ _ (⟨false, y507⟩ : S44) (Kd.R_reads' (Kd.R_mono (ok' := (fun _ => True)) (HO509.out) (fun k_ hk => trivial))).2.1 (Kd.R_F (Kd.R_mono (ok' := (fun _ => True)) (HO509.out) (fun k_ hk => trivial))))) (Reps.none _ _)))); intro v511 w48 ho49 hb hg_ hnew_; clear hg_ hnew_; (first | rw [← Ny510.out] at ho49 | (simp only [Int.reduceToNat] at ho49; rw [← Ny510.out] at ho49)); have n0_ := Aside0.mk (Kd.N_lower ho49 (below_size (by repeat (first | (with_reducible first | exact HB.out | apply bA | apply bN | apply bD) | exact HB.out)))); have n1_ := Aside0.mk (below_step (by repeat (first | (with_reducible first | exact HB.out | apply bA | apply bN | apply bD) | exact HB.out)) hb); clear HB; clear HO501; clear HO509; have HO512 := n0_; have HB := n1_; clear n0_ n1_; clear hb ho49; obtain ⟨Ao50, co50, eo50⟩ := Kd.N_slice HO512.out; subst eo50) | ((with_reducible refine gate_callee (f := 28) rfl ?_); refine goesL_ (some 11) rfl rfl Tryz.func28 (by kernel_rfl) rfl #[.string (⟨#[83, 85, 77]⟩ : ByteArray), .slice Ao50 y510.length co50] rfl (by (try simp only [List.map_toArray, List.map_cons, List.map_nil]); first | done | rfl) ?_; (with_reducible refine (call_all (hL := ⟨by first | exact hL.out | (refine hL.out.drawn ?_; (repeat (first | exact Drawn0.refl _ | apply Drawn0.step)); done) | (refine hL.out.below ?_; (repeat (first | (with_reducible first | exact HB.out | apply bA | apply bN | apply bD | refine below_set ?_ GE518.out | refine below_set ?_ GE534.out) | exact HB.out)); done)⟩) k (⟨#[83, 85, 77]⟩ : ByteArray) arity_SUM _ _ y510 HY.out 1 15000 (⟨#[]⟩ : ByteArray) false 0 _ ?side1 ?side2 A4.out).mono ?_); (case side1 => repeat (first | exact (Kd.N_reads' HO512.out).2.2 | (with_reducible refine Kd.C_alloc ?_ _) | (with_reducible refine Kd.C_drewN ?_ _) | (with_reducible refine Kd.C_drew ?_))); (case side2 => exact (Kd.N_reads' HO512.out).2.1); rintro e w51 ⟨rfl, hb⟩; refine ⟨_, rfl, ?_⟩; have n0_ := Aside0.mk (Kd.N_below (by (with_reducible repeat (first | apply Kd.N_alloc | apply Kd.N_drewN | apply Kd.N_drew)); exact HO512.out) hb); have n1_ := Aside0.mk (below_step (by repeat (first | (with_reducible first | exact HB.out | apply bA | apply bN | apply bD) | exact HB.out)) hb); clear HO512; clear HB; have HO512 := n0_; have HB := n1_; clear n0_ n1_; (try clear hb); (try clear hb2); (try clear hk); (try clear hi)) | ((with_reducible refine gate_dst (N := 1) rfl ?_); refine box_event ?hg (N := 1) ?hd (cs := #[.int .i64 0, .int .i64 0, .string (⟨#[]⟩ : ByteArray), .bool false, .int .i64 0]) (t := 24) ?hr ?_; (case hd => rfl); (case hg => rfl); (case hr => first | (go_simp; done) | (go_simp; rfl)); intro gb518 hg w52 hbox hb; have n0_ := Aside0.mk (Kd.N_below (Kd.N_elderB (by (with_reducible repeat (first | apply Kd.N_alloc | apply Kd.N_drewN | apply Kd.N_drew)); exact HO512.out) gb518 (Nat.le_of_eq hg.symm)) hb); have n1_ := Aside0.mk (below_step (by repeat (first | (with_reducible first | exact HB.out | apply bA | apply bN | apply bD) | exact HB.out)) hb); have n2_ := Aside0.mk (hbox); have n3_ := Aside0.mk ((by rw [hg]; exact (below_size (by repeat (first | (with_reducible first | exact HB.out | apply bA | apply bN | apply bD) | exact HB.out))) : w.heap.size ≤ gb518)); have n4_ := Aside0.mk ((by rw [hg]; exact (below_size (by repeat (first | (with_reducible first | exact HB.out | apply bA | apply bN | apply bD) | exact HB.out))) : w.heap.size ≤ gb518)); clear HO512; clear HB; have HO512 := n0_; have HB := n1_; have BK518 := n2_; have GW518 := n3_; have GE518 := n4_; clear n0_ n1_ n2_ n3_ n4_; clear hb hbox hg; have hcz53_0 : w52.cell? ⟨gb518, 0, none⟩ = some (.int .i64 0) := (blk_cell BK518.out 0).trans rfl; have hcz53_1 : w52.cell? ⟨gb518, 1, none⟩ = some (.int .i64 0) := (blk_cell BK518.out 1).trans rfl; have hcz53_2 : w52.cell? ⟨gb518, 2, none⟩ = some (.string (⟨#[]⟩ : ByteArray)) := (blk_cell BK518.out 2).trans rfl; have hcz53_3 : w52.cell? ⟨gb518, 3, none⟩ = some (.bool false) := (blk_cell BK518.out 3).trans rfl; have hcz53_4 : w52.cell? ⟨gb518, 4, none⟩ = some (.int .i64 0) := (blk_cell BK518.out 4).trans rfl; have hfz53_0 := blk_frozen BK518.out 0; have hfz53_1 := blk_frozen BK518.out 1; have hfz53_2 := blk_frozen BK518.out 2; have hfz53_3 := blk_frozen BK518.out 3; have hfz53_4 := blk_frozen BK518.out 4) | ((with_reducible refine gate_callee (f := 34) rfl ?_); refine goesL_ (some 12) rfl rfl Tryz.func34 (by kernel_rfl) rfl #[.int .i64 1] rfl (by (try simp only [List.map_toArray, List.map_cons, List.map_nil]); first | done | rfl) ?_; (with_reducible refine (counterpaneref1_Num.calls 1 1 1 (⟨#[]⟩ : ByteArray) false 0 _ rfl).mono ?_); rintro e w54 ⟨rfl, hb⟩; refine ⟨_, rfl, ?_⟩; have n0_ := Aside0.mk (Kd.N_below (by (with_reducible repeat (first | apply Kd.N_alloc | apply Kd.N_drewN | apply Kd.N_drew)); exact (Kd.N_mono (Kd.N_far (p := ⟨gb518, 4, none⟩) (Kd.N_far (p := ⟨gb518, 3, none⟩) (Kd.N_far (p := ⟨gb518, 2, none⟩) (Kd.N_far (p := ⟨gb518, 1, none⟩) (Kd.N_far (p := ⟨gb518, 0, none⟩) (Kd.N_mono HO512.out (fun k_ hk => (⟨hk, hk.2⟩ : _ ∧ k_ ≠ gb518))) (fun _ hk => hk.2) (.int .i64 1)) (fun _ hk => hk.2) (.int .i64 15000)) (fun _ hk => hk.2) (.string (⟨#[]⟩ : ByteArray))) (fun _ hk => hk.2) (.bool false)) (fun _ hk => hk.2) (.int .i64 0)) (fun _ h_ => h_.1))) hb); have n1_ := Aside0.mk (blk_below (g := gb518) (o := .cells #[.int .i64 1, .int .i64 15000, .string (⟨#[]⟩ : ByteArray), .bool false, .int .i64 0] 24 (0, 0)) (by (with_reducible repeat (first | refine blk_drewN ?_ _ | refine blk_drew ?_ | refine blk_alloc ?_ _)); refine blk_put (cs := #[.int .i64 1, .int .i64 15000, .string (⟨#[]⟩ : ByteArray), .bool false, .int .i64 0]) ?_ 4 _ rfl; (with_reducible repeat (first | refine blk_drewN ?_ _ | refine blk_drew ?_ | refine blk_alloc ?_ _)); refine blk_put (cs := #[.int .i64 1, .int .i64 15000, .string (⟨#[]⟩ : ByteArray), .bool false, .int .i64 0]) ?_ 3 _ rfl; (with_reducible repeat (first | refine blk_drewN ?_ _ | refine blk_drew ?_ | refine blk_alloc ?_ _)); refine blk_put (cs := #[.int .i64 1, .int .i64 15000, .string (⟨#[]⟩ : ByteArray), .bool false, .int .i64 0]) ?_ 2 _ rfl; (with_reducible repeat (first | refine blk_drewN ?_ _ | refine blk_drew ?_ | refine blk_alloc ?_ _)); refine blk_put (cs := #[.int .i64 1, .int .i64 0, .string (⟨#[]⟩ : ByteArray), .bool false, .int .i64 0]) ?_ 1 _ rfl; (with_reducible repeat (first | refine blk_drewN ?_ _ | refine blk_drew ?_ | refine blk_alloc ?_ _)); refine blk_put (cs := #[.int .i64 0, .int .i64 0, .string (⟨#[]⟩ : ByteArray), .bool false, .int .i64 0]) ?_ 0 _ rfl; (with_reducible repeat (first | refine blk_drewN ?_ _ | refine blk_drew ?_ | refine blk_alloc ?_ _)); exact BK518.out) hb); have n2_ := Aside0.mk (below_step (by repeat (first | (with_reducible first | exact HB.out | apply bA | apply bN | apply bD | refine below_set ?_ GE518.out) | exact HB.out)) hb); clear HO512; clear BK518; clear HB; have HO512 := n0_; have BK518 := n1_; have HB := n2_; clear n0_ n1_ n2_; (try clear hb); (try clear hb2); (try clear hk); (try clear hi)) | ((with_reducible refine gate_callee (f := 34) rfl ?_); refine goesL_ (some 13) rfl rfl Tryz.func34 (by kernel_rfl) rfl #[.int .i64 0] rfl (by (try simp only [List.map_toArray, List.map_cons, List.map_nil]); first | done | rfl) ?_; (with_reducible refine (counterpaneref1_Num.calls 0 1 0 (⟨#[]⟩ : ByteArray) false 0 _ rfl).mono ?_); rintro e w55 ⟨rfl, hb⟩; refine ⟨_, rfl, ?_⟩; have n0_ := Aside0.mk (Kd.N_below (by (with_reducible repeat (first | apply Kd.N_alloc | apply Kd.N_drewN | apply Kd.N_drew)); exact HO512.out) hb); have n1_ := Aside0.mk (blk_below (g := gb518) (o := .cells #[.int .i64 1, .int .i64 15000, .string (⟨#[]⟩ : ByteArray), .bool false, .int .i64 0] 24 (0, 0)) (by (with_reducible repeat (first | refine blk_drewN ?_ _ | refine blk_drew ?_ | refine blk_alloc ?_ _)); exact BK518.out) hb); have n2_ := Aside0.mk (below_step (by repeat (first | (with_reducible first | exact HB.out | apply bA | apply bN | apply bD | refine below_set ?_ GE518.out) | exact HB.out)) hb); clear HO512; clear BK518; clear HB; have HO512 := n0_; have BK518 := n1_; have HB := n2_; clear n0_ n1_ n2_; (try clear hb); (try clear hb2); (try clear hk); (try clear hi)) | ((with_reducible refine gate_callee (f := 31) rfl ?_); refine goesL_ (some 14) rfl rfl Tryz.func31 (by kernel_rfl) rfl #[.string (⟨#[47]⟩ : ByteArray), .agg #[.int .i64 1, .int .i64 1, .string (⟨#[]⟩ : ByteArray), .bool false, .int .i64 0], .agg #[.int .i64 1, .int .i64 0, .string (⟨#[]⟩ : ByteArray), .bool false, .int .i64 0]] rfl (by (try simp only [List.map_toArray, List.map_cons, List.map_nil]); first | done | rfl) ?_; (with_reducible refine (binary_div (w := _) (hL := ⟨by first | exact hL.out | (refine hL.out.drawn ?_; (repeat (first | exact Drawn0.refl _ | apply Drawn0.step)); done) | (refine hL.out.below ?_; (repeat (first | (with_reducible first | exact HB.out | apply bA | apply bN | apply bD | refine below_set ?_ GE518.out | refine below_set ?_ GE534.out) | exact HB.out)); done)⟩)).mono ?_); rintro e w56 ⟨rfl, hb⟩; refine ⟨_, rfl, ?_⟩; have n0_ := Aside0.mk (Kd.N_below (by (with_reducible repeat (first | apply Kd.N_alloc | apply Kd.N_drewN | apply Kd.N_drew)); exact HO512.out) hb); have n1_ := Aside0.mk (blk_below (g := gb518) (o := .cells #[.int .i64 1, .int .i64 15000, .string (⟨#[]⟩ : ByteArray), .bool false, .int .i64 0] 24 (0, 0)) (by (with_reducible repeat (first | refine blk_drewN ?_ _ | refine blk_drew ?_ | refine blk_alloc ?_ _)); exact BK518.out) hb); have n2_ := Aside0.mk (below_step (by repeat (first | (with_reducible first | exact HB.out | apply bA | apply bN | apply bD | refine below_set ?_ GE518.out) | exact HB.out)) hb); clear HO512; clear BK518; clear HB; have HO512 := n0_; have BK518 := n1_; have HB := n2_; clear n0_ n1_ n2_; (try clear hb); (try clear hb2); (try clear hk); (try clear hi)) | ((with_reducible refine gate_dst (N := 2) rfl ?_); refine box_event ?hg (N := 2) ?hd (cs := #[.int .i64 0, .int .i64 0, .string (⟨#[]⟩ : ByteArray), .bool false, .int .i64 0]) (t := 24) ?hr ?_; (case hd => rfl); (case hg => rfl); (case hr => first | (go_simp; done) | (go_simp; rfl)); intro gb534 hg w57 hbox hb; have n0_ := Aside0.mk (Kd.N_below (Kd.N_elderB (by (with_reducible repeat (first | apply Kd.N_alloc | apply Kd.N_drewN | apply Kd.N_drew)); exact HO512.out) gb534 (Nat.le_of_eq hg.symm)) hb); have n1_ := Aside0.mk (blk_below (g := gb518) (o := .cells #[.int .i64 1, .int .i64 15000, .string (⟨#[]⟩ : ByteArray), .bool false, .int .i64 0] 24 (0, 0)) (by (with_reducible repeat (first | refine blk_drewN ?_ _ | refine blk_drew ?_ | refine blk_alloc ?_ _)); exact BK518.out) hb); have n2_ := Aside0.mk (below_step (by repeat (first | (with_reducible first | exact HB.out | apply bA | apply bN | apply bD | refine below_set ?_ GE518.out) | exact HB.out)) hb); have n3_ := Aside0.mk (hbox); have n4_ := Aside0.mk ((by rw [hg]; exact (below_size (by repeat (first | (with_reducible first | exact HB.out | apply bA | apply bN | apply bD | refine below_set ?_ GE518.out) | exact HB.out))) : w.heap.size ≤ gb534)); have n5_ := Aside0.mk ((by rw [hg]; exact (below_size (by repeat (first | (with_reducible first | exact HB.out | apply bA | apply bN | apply bD | refine below_set ?_ GE518.out) | exact HB.out))) : w.heap.size ≤ gb534)); have n6_ := Aside0.mk ((by rw [hg]; exact Nat.ne_of_lt (blk_lt (g := gb518) (o := .cells #[.int .i64 1, .int .i64 15000, .string (⟨#[]⟩ : ByteArray), .bool false, .int .i64 0] 24 (0, 0)) (by (with_reducible repeat (first | refine blk_drewN ?_ _ | refine blk_drew ?_ | refine blk_alloc ?_ _)); exact BK518.out)) : gb518 ≠ gb534)); have n7_ := Aside0.mk ((by rw [hg]; exact Nat.ne_of_gt (blk_lt (g := gb518) (o := .cells #[.int .i64 1, .int .i64 15000, .string (⟨#[]⟩ : ByteArray), .bool false, .int .i64 0] 24 (0, 0)) (by (with_reducible repeat (first | refine blk_drewN ?_ _ | refine blk_drew ?_ | refine blk_alloc ?_ _)); exact BK518.out)) : gb534 ≠ gb518)); clear HO512; clear BK518; clear HB; have HO512 := n0_; have BK518 := n1_; have HB := n2_; have BK534 := n3_; have GW534 := n4_; have GE534 := n5_; have NB518_534 := n6_; have NB534_518 := n7_; clear n0_ n1_ n2_ n3_ n4_ n5_ n6_ n7_; clear hb hbox hg; have hnb58 := NB534_518.out; have hnc58 := NB518_534.out; have hcz59_0 : w57.cell? ⟨gb534, 0, none⟩ = some (.int .i64 0) := (blk_cell BK534.out 0).trans rfl; have hcz59_1 : w57.cell? ⟨gb534, 1, none⟩ = some (.int .i64 0) := (blk_cell BK534.out 1).trans rfl; have hcz59_2 : w57.cell? ⟨gb534, 2, none⟩ = some (.string (⟨#[]⟩ : ByteArray)) := (blk_cell BK534.out 2).trans rfl; have hcz59_3 : w57.cell? ⟨gb534, 3, none⟩ = some (.bool false) := (blk_cell BK534.out 3).trans rfl; have hcz59_4 : w57.cell? ⟨gb534, 4, none⟩ = some (.int .i64 0) := (blk_cell BK534.out 4).trans rfl; have hfz59_0 := blk_frozen BK534.out 0; have hfz59_1 := blk_frozen BK534.out 1; have hfz59_2 := blk_frozen BK534.out 2; have hfz59_3 := blk_frozen BK534.out 3; have hfz59_4 := blk_frozen BK534.out 4; have hcz60_0 : w57.cell? ⟨gb518, 0, none⟩ = some (.int .i64 1) := (blk_cell BK518.out 0).trans rfl; have hcz60_1 : w57.cell? ⟨gb518, 1, none⟩ = some (.int .i64 15000) := (blk_cell BK518.out 1).trans rfl; have hcz60_2 : w57.cell? ⟨gb518, 2, none⟩ = some (.string (⟨#[]⟩ : ByteArray)) := (blk_cell BK518.out 2).trans rfl; have hcz60_3 : w57.cell? ⟨gb518, 3, none⟩ = some (.bool false) := (blk_cell BK518.out 3).trans rfl; have hcz60_4 : w57.cell? ⟨gb518, 4, none⟩ = some (.int .i64 0) := (blk_cell BK518.out 4).trans rfl; have hfz60_0 := blk_frozen BK518.out 0; have hfz60_1 := blk_frozen BK518.out 1; have hfz60_2 := blk_frozen BK518.out 2; have hfz60_3 := blk_frozen BK518.out 3; have hfz60_4 := blk_frozen BK518.out 4) | (go_at_call 51; (with_reducible refine (known_IF _).mono ?_); rintro e w' ⟨rfl, ⟨nd, rfl⟩⟩) | (go_at_call 51; (with_reducible refine (known_if _).mono ?_); rintro e w' ⟨rfl, ⟨nd, rfl⟩⟩) | (go_at_call 34; (with_reducible refine (counterpaneref1_Num.calls 3 1 3 (⟨#[]⟩ : ByteArray) false 0 _ rfl).mono ?_); rintro e w61 ⟨rfl, hb⟩; have n0_ := Aside0.mk (Kd.N_below (by (with_reducible repeat (first | apply Kd.N_alloc | apply Kd.N_drewN | apply Kd.N_drew)); exact (Kd.N_mono (Kd.N_far (p := ⟨gb534, 4, none⟩) (Kd.N_far (p := ⟨gb534, 3, none⟩) (Kd.N_far (p := ⟨gb534, 2, none⟩) (Kd.N_far (p := ⟨gb534, 1, none⟩) (Kd.N_far (p := ⟨gb534, 0, none⟩) (Kd.N_mono HO512.out (fun k_ hk => (⟨hk, hk.2⟩ : _ ∧ k_ ≠ gb534))) (fun _ hk => hk.2) (.int .i64 4)) (fun _ hk => hk.2) (.int .i64 0)) (fun _ hk => hk.2) (.string (⟨#[]⟩ : ByteArray))) (fun _ hk => hk.2) (.bool false)) (fun _ hk => hk.2) (.int .i64 3)) (fun _ h_ => h_.1))) hb); have n1_ := Aside0.mk (blk_below (g := gb518) (o := .cells #[.int .i64 1, .int .i64 15000, .string (⟨#[]⟩ : ByteArray), .bool false, .int .i64 0] 24 (0, 0)) (by (with_reducible repeat (first | refine blk_drewN ?_ _ | refine blk_drew ?_ | refine blk_alloc ?_ _)); refine blk_far ?_ NB518_534.out _; (with_reducible repeat (first | refine blk_drewN ?_ _ | refine blk_drew ?_ | refine blk_alloc ?_ _)); refine blk_far ?_ NB518_534.out _; (with_reducible repeat (first | refine blk_drewN ?_ _ | refine blk_drew ?_ | refine blk_alloc ?_ _)); refine blk_far ?_ NB518_534.out _; (with_reducible repeat (first | refine blk_drewN ?_ _ | refine blk_drew ?_ | refine blk_alloc ?_ _)); refine blk_far ?_ NB518_534.out _; (with_reducible repeat (first | refine blk_drewN ?_ _ | refine blk_drew ?_ | refine blk_alloc ?_ _)); refine blk_far ?_ NB518_534.out _; (with_reducible repeat (first | refine blk_drewN ?_ _ | refine blk_drew ?_ | refine blk_alloc ?_ _)); exact BK518.out) hb); have n2_ := Aside0.mk (blk_below (g := gb534) (o := .cells #[.int .i64 4, .int .i64 0, .string (⟨#[]⟩ : ByteArray), .bool false, .int .i64 3] 24 (0, 0)) (by (with_reducible repeat (first | refine blk_drewN ?_ _ | refine blk_drew ?_ | refine blk_alloc ?_ _)); refine blk_put (cs := #[.int .i64 4, .int .i64 0, .string (⟨#[]⟩ : ByteArray), .bool false, .int .i64 0]) ?_ 4 _ rfl; (with_reducible repeat (first | refine blk_drewN ?_ _ | refine blk_drew ?_ | refine blk_alloc ?_ _)); refine blk_put (cs := #[.int .i64 4, .int .i64 0, .string (⟨#[]⟩ : ByteArray), .bool false, .int .i64 0]) ?_ 3 _ rfl; (with_reducible repeat (first | refine blk_drewN ?_ _ | refine blk_drew ?_ | refine blk_alloc ?_ _)); refine blk_put (cs := #[.int .i64 4, .int .i64 0, .string (⟨#[]⟩ : ByteArray), .bool false, .int .i64 0]) ?_ 2 _ rfl; (with_reducible repeat (first | refine blk_drewN ?_ _ | refine blk_drew ?_ | refine blk_alloc ?_ _)); refine blk_put (cs := #[.int .i64 4, .int .i64 0, .string (⟨#[]⟩ : ByteArray), .bool false, .int .i64 0]) ?_ 1 _ rfl; (with_reducible repeat (first | refine blk_drewN ?_ _ | refine blk_drew ?_ | refine blk_alloc ?_ _)); refine blk_put (cs := #[.int .i64 0, .int .i64 0, .string (⟨#[]⟩ : ByteArray), .bool false, .int .i64 0]) ?_ 0 _ rfl; (with_reducible repeat (first | refine blk_drewN ?_ _ | refine blk_drew ?_ | refine blk_alloc ?_ _)); exact BK534.out) hb); have n3_ := Aside0.mk (below_step (by repeat (first | (with_reducible first | exact HB.out | apply bA | apply bN | apply bD | refine below_set ?_ GE518.out | refine below_set ?_ GE534.out) | exact HB.out)) hb); clear HO512; clear BK518; clear BK534; clear HB; have HO512 := n0_; have BK518 := n1_; have BK534 := n2_; have HB := n3_; clear n0_ n1_ n2_ n3_; (try clear hb); (try clear hb2); (try clear hk); (try clear hi)) | (go_at_call 52; (with_reducible refine (neg_3 (w := _) (hL := ⟨by first | exact hL.out | (refine hL.out.drawn ?_; (repeat (first | exact Drawn0.refl _ | apply Drawn0.step)); done) | (refine hL.out.below ?_; (repeat (first | (with_reducible first | exact HB.out | apply bA | apply bN | apply bD | refine below_set ?_ GE518.out | refine below_set ?_ GE534.out) | exact HB.out)); done)⟩)).mono ?_); rintro e w62 ⟨rfl, hb⟩; have n0_ := Aside0.mk (Kd.N_below (by (with_reducible repeat (first | apply Kd.N_alloc | apply Kd.N_drewN | apply Kd.N_drew)); exact HO512.out) hb); have n1_ := Aside0.mk (blk_below (g := gb518) (o := .cells #[.int .i64 1, .int .i64 15000, .string (⟨#[]⟩ : ByteArray), .bool false, .int .i64 0] 24 (0, 0)) (by (with_reducible repeat (first | refine blk_drewN ?_ _ | refine blk_drew ?_ | refine blk_alloc ?_ _)); exact BK518.out) hb); have n2_ := Aside0.mk (blk_below (g := gb534) (o := .cells #[.int .i64 4, .int .i64 0, .string (⟨#[]⟩ : ByteArray), .bool false, .int .i64 3] 24 (0, 0)) (by (with_reducible repeat (first | refine blk_drewN ?_ _ | refine blk_drew ?_ | refine blk_alloc ?_ _)); exact BK534.out) hb); have n3_ := Aside0.mk (below_step (by repeat (first | (with_reducible first | exact HB.out | apply bA | apply bN | apply bD | refine below_set ?_ GE518.out | refine below_set ?_ GE534.out) | exact HB.out)) hb); clear HO512; clear BK518; clear BK534; clear HB; have HO512 := n0_; have BK518 := n1_; have BK534 := n2_; have HB := n3_; clear n0_ n1_ n2_ n3_; (try clear hb); (try clear hb2); (try clear hk); (try clear hi)))
  go_ret
  exact ⟨by first | rfl | (simp; done) | (simp [*]; done), by repeat (first | (with_reducible first | exact HB.out | apply bA | apply bN | apply bD | refine below_set ?_ GE518.out | refine below_set ?_ GE534.out) | exact HB.out)⟩
end Go.Proofs.YtfnbflhoaemmeaaGreatDoor.EBui
end
section
namespace Go.Proofs.YtfnbflhoaemmeaaGreatDoor.EBui
open Go.RowKit Go.Proofs.YtfnbflhoaemmeaaGreatDoor.Ext Go.Proofs.YtfnbflhoaemmeaaGreatDoor.EFxA Go.Proofs.YtfnbflhoaemmeaaGreatDoor.EFix Go.Proofs.YtfnbflhoaemmeaaGreatDoor.EVal Go.Proofs.YtfnbflhoaemmeaaGreatDoorW.PrintWords Go.Proofs.YtfnbflhoaemmeaaGreatDoorW.PrintLast Go.Proofs.YtfnbflhoaemmeaaGreatDoorW.PrintMore
attribute [local go_sem] max2_int min2_int max_two min_two max_three min_three max_four min_four   
set_option linter.unusedVariables false
set_option linter.unusedSimpArgs false
def counterpanelaw12_one.f (a0_0 : Int) (a0_1 : Int) (a0_2 : ByteArray) (a0_3 : Bool) (a0_4 : Int) : Option (Bool × (List (S24))) := some (false, (([(⟨a0_0, a0_1, a0_2, a0_3, a0_4⟩ : S24)] : List (S24))))
set_option maxHeartbeats 8000000 in
set_option maxRecDepth 100000 in
theorem counterpanelaw12_one.calls (a0_0 : Int) (a0_1 : Int) (a0_2 : ByteArray) (a0_3 : Bool) (a0_4 : Int) (r1 : Bool) (r2 : List (S24)) (w : World) (h : counterpanelaw12_one.f a0_0 a0_1 a0_2 a0_3 a0_4 = some (r1, r2)) :
  Calls Tryz.prog 29 #[.agg #[.int .i64 a0_0, .int .i64 a0_1, .string a0_2, .bool a0_3, .int .i64 a0_4]] w fun e w' => ∃ v1_ : Value, e = .returned (.agg #[.bool r1, v1_]) ∧ Kd.R k24 24 w' w.heap.size (fun _ => True) v1_ r2 ∧ Below w.heap.size w w' := by
 have hu24 := Tryz.underlying24
 have hu44 := Tryz.underlying44
 have HB := Aside0.mk (Below.refl w.heap.size w)
 have H : (some (false, (([(⟨a0_0, a0_1, a0_2, a0_3, a0_4⟩ : S24)] : List (S24))))) = some (r1, r2) := h
 clear h
 obtain ⟨y566, hy566⟩ : ∃ y_ : List (S24), y_ = (([(⟨a0_0, a0_1, a0_2, a0_3, a0_4⟩ : S24)] : List (S24))) := ⟨_, rfl⟩
 replace H : (some (false, y566)) = some (r1, r2) := by first | (rw [hy566]; with_reducible exact H) | (have H2_ := (Option.bind_some _ _).symm.trans H; rw [hy566]; with_reducible exact H2_) | (have H2_ := (Option.bind_some _ _).symm.trans H; with_reducible exact H2_) | with_reducible exact H | (rw [hy566]; exact H) | exact H
 have Ny566 := Aside0.mk hy566
 clear hy566
 simp only [Option.some.injEq, Prod.mk.injEq] at H
 obtain ⟨rfl, rfl⟩ := H
 go_enter Tryz.func29, Tryz.ntmps29
 go_wp2_with (first | ((with_reducible refine gate_dst (N := 1) rfl ?_); refine box_event ?hg (N := 1) ?hd (cs := #[.int .i64 a0_0, .int .i64 a0_1, .string a0_2, .bool a0_3, .int .i64 a0_4]) (t := 24) ?hr ?_; (case hd => rfl); (case hg => rfl); (case hr => first | (go_simp; done) | (go_simp; rfl)); intro gb564 hg w2 hbox hb; have n0_ := Aside0.mk (below_step (by repeat (first | (with_reducible first | exact HB.out | apply bA | apply bN | apply bD) | exact HB.out)) hb); have n1_ := Aside0.mk (hbox); have n2_ := Aside0.mk ((by rw [hg]; exact (below_size (by repeat (first | (with_reducible first | exact HB.out | apply bA | apply bN | apply bD) | exact HB.out))) : w.heap.size ≤ gb564)); have n3_ := Aside0.mk ((by rw [hg]; exact (below_size (by repeat (first | (with_reducible first | exact HB.out | apply bA | apply bN | apply bD) | exact HB.out))) : w.heap.size ≤ gb564)); clear HB; have HB := n0_; have BK564 := n1_; have GW564 := n2_; have GE564 := n3_; clear n0_ n1_ n2_ n3_; clear hb hbox hg) | ((with_reducible refine gate_dst (N := 2) rfl ?_); refine box_event ?hg (N := 2) ?hd (cs := #[.bool false, .slice none 0 0]) (t := 44) ?hr ?_; (case hd => rfl); (case hg => rfl); (case hr => first | (go_simp; done) | (go_simp; rfl)); intro gb565 hg w3 hbox hb; have n0_ := Aside0.mk (blk_below (g := gb564) (o := .cells #[.int .i64 a0_0, .int .i64 a0_1, .string a0_2, .bool a0_3, .int .i64 a0_4] 24 (0, 0)) (by (with_reducible repeat (first | refine blk_drewN ?_ _ | refine blk_drew ?_ | refine blk_alloc ?_ _)); exact BK564.out) hb); have n1_ := Aside0.mk (below_step (by repeat (first | (with_reducible first | exact HB.out | apply bA | apply bN | apply bD | refine below_set ?_ GE564.out) | exact HB.out)) hb); have n2_ := Aside0.mk (hbox); have n3_ := Aside0.mk ((by rw [hg]; exact (below_size (by repeat (first | (with_reducible first | exact HB.out | apply bA | apply bN | apply bD | refine below_set ?_ GE564.out) | exact HB.out))) : w.heap.size ≤ gb565)); have n4_ := Aside0.mk ((by rw [hg]; exact (below_size (by repeat (first | (with_reducible first | exact HB.out | apply bA | apply bN | apply bD | refine below_set ?_ GE564.out) | exact HB.out))) : w.heap.size ≤ gb565)); have n5_ := Aside0.mk ((by rw [hg]; exact Nat.ne_of_lt (blk_lt (g := gb564) (o := .cells #[.int .i64 a0_0, .int .i64 a0_1, .string a0_2, .bool a0_3, .int .i64 a0_4] 24 (0, 0)) (by (with_reducible repeat (first | refine blk_drewN ?_ _ | refine blk_drew ?_ | refine blk_alloc ?_ _)); exact BK564.out)) : gb564 ≠ gb565)); have n6_ := Aside0.mk ((by rw [hg]; exact Nat.ne_of_gt (blk_lt (g := gb564) (o := .cells #[.int .i64 a0_0, .int .i64 a0_1, .string a0_2, .bool a0_3, .int .i64 a0_4] 24 (0, 0)) (by (with_reducible repeat (first | refine blk_drewN ?_ _ | refine blk_drew ?_ | refine blk_alloc ?_ _)); exact BK564.out)) : gb565 ≠ gb564)); clear BK564; clear HB; have BK564 := n0_; have HB := n1_; have BK565 := n2_; have GW565 := n3_; have GE565 := n4_; have NB564_565 := n5_; have NB565_564 := n6_; clear n0_ n1_ n2_ n3_ n4_ n5_ n6_; clear hb hbox hg; have hnb4 := NB564_565.out; have hnc4 := NB565_564.out; obtain ⟨hcz5_0, hcz5_1, hcz5_2, hcz5_3, hcz5_4, hfz5_0, hfz5_1, hfz5_2, hfz5_3, hfz5_4⟩ := five BK564.out) | ((with_reducible refine gate_dst (N := 4) rfl ?_); refine Kd.R_lit k24 _ 24 ?hg (N := 4) ?hd (xs := ([(⟨a0_0, a0_1, a0_2, a0_3, a0_4⟩ : S24)] : List (S24))) (inner := [.int .i64 a0_0, .int .i64 a0_1, .string a0_2, .bool a0_3, .int .i64 a0_4]) (ok := fun _ => True) (okp := fun _ => True) ?hr ?hp (fun _ hk => hk) trivial (Below.refl _ _) (Nat.le_refl _) (by simp) ?_; (case hd => rfl); (case hg => rfl); (case hr => first | (go_simp; done) | (go_simp; rfl)); (case hp => exact (Reps.c5 (show Kd.M k24 _ _ _ (⟨a0_0, a0_1, a0_2, a0_3, a0_4⟩ : S24) [.int .i64 a0_0, .int .i64 a0_1, .string a0_2, .bool a0_3, .int .i64 a0_4] from (k24_mkM _ _ _ (⟨a0_0, a0_1, a0_2, a0_3, a0_4⟩ : S24) )) (Reps.none _ _))); intro v567 w6 ho7 hb hg_ hnew_; clear hg_ hnew_; (first | rw [← Ny566.out] at ho7 | (simp only [Int.reduceToNat] at ho7; rw [← Ny566.out] at ho7)); have n0_ := Aside0.mk (Kd.R_lower (Kd.R_newB ho7 (g := gb564) (o := .cells #[.int .i64 a0_0, .int .i64 a0_1, .string a0_2, .bool a0_3, .int .i64 a0_4] 24 (0, 0)) (by (with_reducible repeat (first | refine blk_drewN ?_ _ | refine blk_drew ?_ | refine blk_alloc ?_ _)); exact BK564.out)) (below_size (by repeat (first | (with_reducible first | exact HB.out | apply bA | apply bN | apply bD | refine below_set ?_ GE564.out | refine below_set ?_ GE565.out) | exact HB.out)))); have n1_ := Aside0.mk (blk_below (g := gb564) (o := .cells #[.int .i64 a0_0, .int .i64 a0_1, .string a0_2, .bool a0_3, .int .i64 a0_4] 24 (0, 0)) (by (with_reducible repeat (first | refine blk_drewN ?_ _ | refine blk_drew ?_ | refine blk_alloc ?_ _)); exact BK564.out) hb); have n2_ := Aside0.mk (blk_below (g := gb565) (o := .cells #[.bool false, .slice none 0 0] 44 (0, 0)) (by (with_reducible repeat (first | refine blk_drewN ?_ _ | refine blk_drew ?_ | refine blk_alloc ?_ _)); exact BK565.out) hb); have n3_ := Aside0.mk (below_step (by repeat (first | (with_reducible first | exact HB.out | apply bA | apply bN | apply bD | refine below_set ?_ GE564.out | refine below_set ?_ GE565.out) | exact HB.out)) hb); clear BK564; clear BK565; clear HB; have HO568 := n0_; have BK564 := n1_; have BK565 := n2_; have HB := n3_; clear n0_ n1_ n2_ n3_; clear hb ho7; obtain ⟨Ao8, co8, eo8⟩ := Kd.R_slice HO568.out; subst eo8; have hcz9_0 : w6.cell? ⟨gb565, 0, none⟩ = some (.bool false) := (blk_cell BK565.out 0).trans rfl; have hcz9_1 : w6.cell? ⟨gb565, 1, none⟩ = some (.slice none 0 0) := (blk_cell BK565.out 1).trans rfl; have hfz9_0 := blk_frozen BK565.out 0; have hfz9_1 := blk_frozen BK565.out 1))
 refine bodyPost_ret (results_cell_row rfl _ _ gb565 44 #[.bool false, .slice Ao8 y566.length co8] (0, 0) _ rfl (by (with_reducible repeat (first | refine blk_drewN ?_ _ | refine blk_drew ?_ | refine blk_alloc ?_ _)); refine blk_put (cs := #[.bool false, .slice none 0 0]) ?_ 1 _ rfl; (with_reducible repeat (first | refine blk_drewN ?_ _ | refine blk_drew ?_ | refine blk_alloc ?_ _)); refine blk_put (cs := #[.bool false, .slice none 0 0]) ?_ 0 _ rfl; (with_reducible repeat (first | refine blk_drewN ?_ _ | refine blk_drew ?_ | refine blk_alloc ?_ _)); exact BK565.out) Tryz.underlying44 rfl (by kernel_rfl)) rfl ?_
 exact ⟨_, by first | rfl | (simp; done) | (simp [*]; done) | (simp <;> rfl) | (simp [*] <;> rfl), by (with_reducible repeat (first | apply Kd.R_alloc | apply Kd.R_drewN | apply Kd.R_drew)); exact Kd.R_mono (Kd.R_far (p := ⟨gb565, 1, none⟩) (Kd.R_far (p := ⟨gb565, 0, none⟩) (Kd.R_types HO568.out BK565.out (by decide)) (fun _ hk => hk.2) (.bool false)) (fun _ hk => hk.2) (.slice Ao8 y566.length co8)) (fun _ hk => trivial), by repeat (first | (with_reducible first | exact HB.out | apply bA | apply bN | apply bD | refine below_set ?_ GE564.out | refine below_set ?_ GE565.out) | exact HB.out)⟩
end Go.Proofs.YtfnbflhoaemmeaaGreatDoor.EBui
end
section
namespace Go.Proofs.YtfnbflhoaemmeaaGreatDoor.EBui
open Go.RowKit Go.Lib Go.Proofs.YtfnbflhoaemmeaaGreatDoorW.PrintWords Go.Proofs.YtfnbflhoaemmeaaGreatDoorW.PrintLast Go.Proofs.YtfnbflhoaemmeaaGreatDoorW.PrintMore Go.Proofs.YtfnbflhoaemmeaaGreatDoor.Ext Go.Proofs.YtfnbflhoaemmeaaGreatDoor.EFxA Go.Proofs.YtfnbflhoaemmeaaGreatDoor.EFix Go.Proofs.YtfnbflhoaemmeaaGreatDoor.EVal
attribute [local go_sem] max2_int min2_int max_two min_two max_three min_three max_four min_four
set_option linter.unusedVariables false
set_option linter.unusedSimpArgs false
def i4_T : Bool × List (List Nat × List Nat) := (true, [([], []), ([0], [0]), ([], []), ([2, 1], [2]), ([1, 3, 0, 1], [1]), ([3, 4, 0, 1, 2, 3, 4], [3])])
def i4_B : List Nat := [0, 1, 0, 7, 15, 31]
theorem i4_tab : rtab .any (opsOf Tryz.f6 4) = i4_T := by kernel_rfl
theorem i4_bits : waitsOk i4_T.2 i4_B = true := by kernel_rfl
def i7_T : Bool × List (List Nat × List Nat) := (true, [([], []), ([0], [0]), ([1, 1], [1]), ([], []), ([3, 2], [3]), ([], []), ([5, 4], [5]), ([2, 4, 6], [2, 4, 6]), ([7, 6], [7]), ([], []), ([9, 8, 8, 0, 1, 2, 3, 4, 5, 6, 7, 8, 9], [8, 9])])
def i7_B : List Nat := [0, 1, 3, 0, 15, 0, 63, 127, 255, 0, 1023]
theorem i7_tab : rtab .any (opsOf Tryz.f6 7) = i7_T := by kernel_rfl
theorem i7_bits : waitsOk i7_T.2 i7_B = true := by kernel_rfl
def i8_T : Bool × List (List Nat × List Nat) := (true, [([], []), ([0], [0]), ([1, 1], [1]), ([], []), ([3, 2], [3]), ([2, 4], [2, 4]), ([5, 4], [5]), ([], []), ([7, 6, 6, 0, 1, 2, 3, 4, 5, 6, 7], [6, 7])])
def i8_B : List Nat := [0, 1, 3, 0, 15, 31, 63, 0, 255]
theorem i8_tab : rtab .any (opsOf Tryz.f6 8) = i8_T := by kernel_rfl
theorem i8_bits : waitsOk i8_T.2 i8_B = true := by kernel_rfl
def i11_T : Bool × List (List Nat × List Nat) := (true, [([], []), ([0], [0]), ([1], [1]), ([1], [1]), ([2, 3, 1, 1], [1, 2, 3]), ([1, 4], [1, 4]), ([5, 4], [5]), ([6], [6]), ([6, 6], [6]), ([7, 8, 8, 6], [6, 7, 8]), ([6, 9], [6, 9]), ([10, 9, 0, 1, 2, 3, 4, 5, 6, 7, 8, 9, 10], [10])])
def i11_B : List Nat := [0, 1, 3, 3, 15, 31, 63, 127, 127, 511, 1023, 2047]
theorem i11_tab : rtab .any (opsOf Tryz.f6 11) = i11_T := by kernel_rfl
theorem i11_bits : waitsOk i11_T.2 i11_B = true := by kernel_rfl
set_option maxHeartbeats 8000000 in
set_option maxRecDepth 100000 in
theorem builtinIf_in (c : Bool) (a0 a1 : Int) (sa : ByteArray) (a3 : Bool) (a4 b0 b1 : Int) (sb : ByteArray) (b3 : Bool) (b4 : Int) (ha : int64 a1) (hb0 : int64 b1) (w : World) (hL : Aside0 (Lq w)) :
    Calls Tryz.prog 6 #[.bool c, .agg #[.int .i64 a0, .int .i64 a1, .string sa, .bool a3, .int .i64 a4], .agg #[.int .i64 b0, .int .i64 b1, .string sb, .bool b3, .int .i64 b4]] w fun e w' => e = .returned (.bool true) ∧ Below w.heap.size w w' := by
  have hu24 := Tryz.underlying24
  have hu44 := Tryz.underlying44
  have HB := Aside0.mk (Below.refl w.heap.size w)
  obtain ⟨ta, hca, za⟩ := cut_f a0 a1 sa a3 a4
  obtain ⟨tb, hcb, zb⟩ := cut_f b0 b1 sb b3 b4
  have HCA := Aside0.mk hca
  have HCB := Aside0.mk hcb
  have hma := refMay_f 20000 a0 a1 ta a3 a4 (by omega) (by omega)
  have hmb := refMay_f 20000 b0 b1 tb b3 b4 (by omega) (by omega)
  obtain ⟨mA, qa⟩ : ∃ m, mayS (a0, a1, ta, a3, a4) = m := ⟨_, rfl⟩
  obtain ⟨mB, qb⟩ : ∃ m, mayS (b0, b1, tb, b3, b4) = m := ⟨_, rfl⟩
  rw [qa] at hma
  rw [qb] at hmb
  have HMA := Aside0.mk hma
  have HMB := Aside0.mk hmb
  have HZ := Aside0.mk (And.intro qa (And.intro qb (And.intro za (And.intro zb (And.intro ha hb0)))))
  clear hca hcb hma hmb qa qb za zb ha hb0
  go_enter Tryz.func6, Tryz.ntmps6
  go_upto_region 4 with (first
    | ((with_reducible refine gate_dst (N := 4) rfl ?_); (try (refine gate_guard (by rfl) ?_; dsimp only)); refine box_event ?hg (N := 4) ?hd (cs := cs5 a0 a1 sa a3 a4) (t := 24) ?hr ?_; (case hd => rfl); (case hg => rfl); (case hr => first | (go_simp; done) | (go_simp; rfl)); intro gA hg wA hbox hb; have GEA := Aside0.mk ((by rw [hg]; exact (below_size (by repeat (first | (with_reducible first | exact HB.out | apply bA | apply below_drew | apply bN | apply bD) | exact HB.out))) : w.heap.size ≤ gA)); have nX_ := Aside0.mk hbox; have n0_ := Aside0.mk (below_step (by repeat (first | (with_reducible first | exact HB.out | apply bA | apply below_drew | apply bN | apply bD) | exact HB.out)) hb); clear HB ; have HB := n0_; clear n0_ hb; have BKA := nX_; clear nX_ hbox hg; obtain ⟨zA0, zA1, zA2, zA3, zA4, zAf0, zAf1, zAf2, zAf3, zAf4⟩ := five BKA.out)
    | ((with_reducible refine gate_dst (N := 5) rfl ?_); (try (refine gate_guard (by rfl) ?_; dsimp only)); refine box_event ?hg (N := 5) ?hd (cs := cs5 b0 b1 sb b3 b4) (t := 24) ?hr ?_; (case hd => rfl); (case hg => rfl); (case hr => first | (go_simp; done) | (go_simp; rfl)); intro gB hg wB hbox hb; have GEB := Aside0.mk ((by rw [hg]; exact (below_size (by repeat (first | (with_reducible first | exact HB.out | apply bA | apply below_drew | apply bN | apply bD | refine below_set ?_ GEA.out) | exact HB.out))) : w.heap.size ≤ gB)); have NEAB : gA ≠ gB := (by rw [hg]; exact Nat.ne_of_lt (blk_lt (by (with_reducible repeat (first | refine blk_drewN ?_ _ | refine blk_drew ?_ | refine blk_alloc ?_ _)); exact BKA.out))); have NEBA : gB ≠ gA := Ne.symm NEAB; have nX_ := Aside0.mk hbox; have mA_ := Aside0.mk (blk_below (by (with_reducible repeat (first | refine blk_drewN ?_ _ | refine blk_drew ?_ | refine blk_alloc ?_ _)); exact BKA.out) hb); have n0_ := Aside0.mk (below_step (by repeat (first | (with_reducible first | exact HB.out | apply bA | apply below_drew | apply bN | apply bD | refine below_set ?_ GEA.out) | exact HB.out)) hb); clear HB BKA; have HB := n0_; have BKA := mA_; clear n0_ mA_ hb; have BKB := nX_; clear nX_ hbox hg; clear zA0 zAf0 zA1 zAf1 zA2 zAf2 zA3 zAf3 zA4 zAf4; obtain ⟨zA0, zA1, zA2, zA3, zA4, zAf0, zAf1, zAf2, zAf3, zAf4⟩ := five BKA.out; obtain ⟨zB0, zB1, zB2, zB3, zB4, zBf0, zBf1, zBf2, zBf3, zBf4⟩ := five BKB.out)
    | ((with_reducible refine gate_callee (f := 25) rfl ?_); (try (refine gate_guard (by rfl) ?_; dsimp only)); refine goesL_ (some 10) rfl rfl Tryz.func25 (by kernel_rfl) rfl #[] rfl (by (try simp only [List.map_toArray, List.map_cons, List.map_nil]); first | done | rfl) ?_; (refine (begun12 (w := _) (hL := ⟨hL.out.below (by repeat (first | (with_reducible first | exact HB.out | apply bA | apply below_drew | apply bN | apply bD | refine below_set ?_ GEA.out | refine below_set ?_ GEB.out) | exact HB.out))⟩)).mono ?_); rintro e_ v1 ⟨rfl, hb⟩; refine ⟨_, rfl, ?_⟩; have mA_ := Aside0.mk (blk_below (by (with_reducible repeat (first | refine blk_drewN ?_ _ | refine blk_drew ?_ | refine blk_alloc ?_ _)); exact BKA.out) hb); have mB_ := Aside0.mk (blk_below (by (with_reducible repeat (first | refine blk_drewN ?_ _ | refine blk_drew ?_ | refine blk_alloc ?_ _)); exact BKB.out) hb); have n0_ := Aside0.mk (below_step (by repeat (first | (with_reducible first | exact HB.out | apply bA | apply below_drew | apply bN | apply bD | refine below_set ?_ GEA.out | refine below_set ?_ GEB.out) | exact HB.out)) hb); clear HB BKA BKB; have HB := n0_; have BKA := mA_; have BKB := mB_; clear n0_ mA_ mB_ hb; clear zA0 zAf0 zA1 zAf1 zA2 zAf2 zA3 zAf3 zA4 zAf4; clear zB0 zBf0 zB1 zBf1 zB2 zBf2 zB3 zBf3 zB4 zBf4))
  (try simp only [Act.put, List.setIfInBounds_toArray, List.set_cons_zero, List.set_cons_succ])
  refine start_ (n := 6) (S := fun w' => w'.heap[gA]? = some (.cells (cs5 a0 a1 sa a3 a4) 24 (0, 0)) ∧ w'.heap[gB]? = some (.cells (cs5 b0 b1 sb b3 b4) 24 (0, 0))) (ds := [4, 5]) #[false, false, false, false, false, false] (by kernel_rfl) rfl rfl (⟨BKA.out, BKB.out⟩) (fun hHeld => ?_)
  refine with_tabW i4_tab i4_bits (fun HT_ HW_ => ?_)
  have mA_ := Aside0.mk (blk_drew BKA.out)
  have mB_ := Aside0.mk (blk_drew BKB.out)
  have n0_ := Aside0.mk (below_drew1 HB.out)
  clear HB BKA BKB
  have BKA := mA_
  have BKB := mB_
  have HB := n0_
  clear n0_ mA_ mB_
  generalize World.drew _ = wD at BKA BKB HB hHeld ⊢
  refine take_ (i := 0) (N := some 13) (v := ?_) (a' := ?_) #[true, false, false, false, false, false] rfl rfl (take_ofW HT_.out HW_.out (by kernel_rfl)) (fun _ _ _ h => h) (Or.inl ⟨by rfl, ?_⟩) hHeld ?_ ?_
  rotate_left
  · intro w' sA
    obtain ⟨sA1_, sB1_⟩ := sA
    have sA0 : w'.cell? ⟨gA, 0, none⟩ = some (.int .i64 a0) := (blk_cell sA1_ 0).trans rfl
    have sA1 : w'.cell? ⟨gA, 1, none⟩ = some (.int .i64 a1) := (blk_cell sA1_ 1).trans rfl
    have sA2 : w'.cell? ⟨gA, 2, none⟩ = some (.string sa) := (blk_cell sA1_ 2).trans rfl
    have sA3 : w'.cell? ⟨gA, 3, none⟩ = some (.bool a3) := (blk_cell sA1_ 3).trans rfl
    have sA4 : w'.cell? ⟨gA, 4, none⟩ = some (.int .i64 a4) := (blk_cell sA1_ 4).trans rfl
    have sB0 : w'.cell? ⟨gB, 0, none⟩ = some (.int .i64 b0) := (blk_cell sB1_ 0).trans rfl
    have sB1 : w'.cell? ⟨gB, 1, none⟩ = some (.int .i64 b1) := (blk_cell sB1_ 1).trans rfl
    have sB2 : w'.cell? ⟨gB, 2, none⟩ = some (.string sb) := (blk_cell sB1_ 2).trans rfl
    have sB3 : w'.cell? ⟨gB, 3, none⟩ = some (.bool b3) := (blk_cell sB1_ 3).trans rfl
    have sB4 : w'.cell? ⟨gB, 4, none⟩ = some (.int .i64 b4) := (blk_cell sB1_ 4).trans rfl
    clear sA1_ sB1_
    go_simp
    with_reducible rfl
  rotate_left
  · simp only [Act.put, List.setIfInBounds_toArray, List.set_cons_zero, List.set_cons_succ, i64_w, i32_w]
    rfl
  refine take_ (i := 2) (N := some 15) (v := ?_) (a' := ?_) #[true, false, true, false, false, false] rfl rfl (take_ofW HT_.out HW_.out (by kernel_rfl)) (fun _ _ _ h => h) (Or.inl ⟨by rfl, ?_⟩) hHeld ?_ ?_
  rotate_left
  · intro w' sA
    obtain ⟨sA1_, sB1_⟩ := sA
    have sA0 : w'.cell? ⟨gA, 0, none⟩ = some (.int .i64 a0) := (blk_cell sA1_ 0).trans rfl
    have sA1 : w'.cell? ⟨gA, 1, none⟩ = some (.int .i64 a1) := (blk_cell sA1_ 1).trans rfl
    have sA2 : w'.cell? ⟨gA, 2, none⟩ = some (.string sa) := (blk_cell sA1_ 2).trans rfl
    have sA3 : w'.cell? ⟨gA, 3, none⟩ = some (.bool a3) := (blk_cell sA1_ 3).trans rfl
    have sA4 : w'.cell? ⟨gA, 4, none⟩ = some (.int .i64 a4) := (blk_cell sA1_ 4).trans rfl
    have sB0 : w'.cell? ⟨gB, 0, none⟩ = some (.int .i64 b0) := (blk_cell sB1_ 0).trans rfl
    have sB1 : w'.cell? ⟨gB, 1, none⟩ = some (.int .i64 b1) := (blk_cell sB1_ 1).trans rfl
    have sB2 : w'.cell? ⟨gB, 2, none⟩ = some (.string sb) := (blk_cell sB1_ 2).trans rfl
    have sB3 : w'.cell? ⟨gB, 3, none⟩ = some (.bool b3) := (blk_cell sB1_ 3).trans rfl
    have sB4 : w'.cell? ⟨gB, 4, none⟩ = some (.int .i64 b4) := (blk_cell sB1_ 4).trans rfl
    clear sA1_ sB1_
    go_simp
    with_reducible rfl
  rotate_left
  · simp only [Act.put, List.setIfInBounds_toArray, List.set_cons_zero, List.set_cons_succ, i64_w, i32_w]
    rfl
  refine one_ (i := 1) (N := some 14) #[true, true, true, false, false, false] rfl rfl (one_of HT_.out (by kernel_rfl)) (by decide) (fun K hK => ?_)
  refine goes_ Tryz.func10 (by kernel_rfl) rfl #[.agg #[.int .i64 a0, .int .i64 a1, .string sa, .bool a3, .int .i64 a4]] (by rfl) rfl rfl (by (try simp only [List.map_toArray, List.map_cons, List.map_nil]); first | done | rfl) ?_
  refine (counterpanelaw2_Cut.calls a0 a1 sa a3 a4 a0 a1 ta a3 a4 _ HCA.out).mono ?_
  rintro e_ w1 ⟨rfl, hb⟩
  refine ⟨_, rfl, ?_⟩
  have mA_ := Aside0.mk (blk_below (by (with_reducible repeat (first | refine blk_drewN ?_ _ | refine blk_drew ?_ | refine blk_alloc ?_ _)); exact BKA.out) hb); have mB_ := Aside0.mk (blk_below (by (with_reducible repeat (first | refine blk_drewN ?_ _ | refine blk_drew ?_ | refine blk_alloc ?_ _)); exact BKB.out) hb); have n0_ := Aside0.mk (below_step (by repeat (first | (with_reducible first | exact HB.out | apply bA | apply below_drew | apply bN | apply bD | refine below_set ?_ GEA.out | refine below_set ?_ GEB.out) | exact HB.out)) hb); clear HB BKA BKB; have HB := n0_; have BKA := mA_; have BKB := mB_; clear n0_ mA_ mB_ hb
  refine hK.out _ _ (⟨BKA.out, BKB.out⟩) (fun hHeld => ?_)
  clear hK K
  refine norm_ (a' := ?_) ?_ ?_
  rotate_left
  · show Act.put _ (some 14) _ = _
    simp only [Act.put, List.setIfInBounds_toArray, List.set_cons_zero, List.set_cons_succ, i64_w, i32_w]
    rfl
  refine one_ (i := 3) (N := some 16) #[true, true, true, true, false, false] rfl rfl (one_of HT_.out (by kernel_rfl)) (by decide) (fun K hK => ?_)
  refine goes_ Tryz.func10 (by kernel_rfl) rfl #[.agg #[.int .i64 b0, .int .i64 b1, .string sb, .bool b3, .int .i64 b4]] (by rfl) rfl rfl (by (try simp only [List.map_toArray, List.map_cons, List.map_nil]); first | done | rfl) ?_
  refine (counterpanelaw2_Cut.calls b0 b1 sb b3 b4 b0 b1 tb b3 b4 _ HCB.out).mono ?_
  rintro e_ w1 ⟨rfl, hb⟩
  refine ⟨_, rfl, ?_⟩
  have mA_ := Aside0.mk (blk_below (by (with_reducible repeat (first | refine blk_drewN ?_ _ | refine blk_drew ?_ | refine blk_alloc ?_ _)); exact BKA.out) hb); have mB_ := Aside0.mk (blk_below (by (with_reducible repeat (first | refine blk_drewN ?_ _ | refine blk_drew ?_ | refine blk_alloc ?_ _)); exact BKB.out) hb); have n0_ := Aside0.mk (below_step (by repeat (first | (with_reducible first | exact HB.out | apply bA | apply below_drew | apply bN | apply bD | refine below_set ?_ GEA.out | refine below_set ?_ GEB.out) | exact HB.out)) hb); clear HB BKA BKB; have HB := n0_; have BKA := mA_; have BKB := mB_; clear n0_ mA_ mB_ hb
  refine hK.out _ _ (⟨BKA.out, BKB.out⟩) (fun hHeld => ?_)
  clear hK K
  refine norm_ (a' := ?_) ?_ ?_
  rotate_left
  · show Act.put _ (some 16) _ = _
    simp only [Act.put, List.setIfInBounds_toArray, List.set_cons_zero, List.set_cons_succ, i64_w, i32_w]
    rfl
  obtain ⟨zA0, zA1, zA2, zA3, zA4, zAf0, zAf1, zAf2, zAf3, zAf4⟩ := five BKA.out
  obtain ⟨w4, hw_⟩ : ∃ w3, w3 = (((((w1).setCell ⟨gA, 0, none⟩ (.int .i64 a0)).setCell ⟨gA, 1, none⟩ (.int .i64 a1)).setCell ⟨gA, 2, none⟩ (.string ta)).setCell ⟨gA, 3, none⟩ (.bool a3)).setCell ⟨gA, 4, none⟩ (.int .i64 a4) := ⟨_, rfl⟩
  refine last_ (i := 4) (N := none) #[true, true, true, true, true, false] rfl rfl (one_of HT_.out (by kernel_rfl)) (by decide) (fun K hK => ?_)
  refine skip_ (w1 := w4) (by rfl) rfl ?_ ?_
  · rw [hw_]
    first | (go_simp; done) | (go_simp; rfl)
  have mA_ : Aside0 (w4.heap[gA]? = some (.cells (cs5 a0 a1 ta a3 a4) 24 (0, 0))) := ⟨by rw [hw_]; exact vput BKA.out _ _ _ _ _⟩
  have mB_ : Aside0 (w4.heap[gB]? = some (.cells (cs5 b0 b1 sb b3 b4) 24 (0, 0))) := ⟨by rw [hw_]; exact vfar BKB.out NEBA _ _ _ _ _⟩
  have n0_ : Aside0 (Below w.heap.size w w4) := ⟨by rw [hw_]; exact vbel HB.out GEA.out _ _ _ _ _⟩
  clear zA0 zAf0 zA1 zAf1 zA2 zAf2 zA3 zAf3 zA4 zAf4
  clear HB hw_ BKA BKB
  have HB := n0_
  have BKA := mA_
  have BKB := mB_
  clear n0_ mA_ mB_
  refine hK.out _ _ ?_
  clear hK K
  obtain ⟨zB0, zB1, zB2, zB3, zB4, zBf0, zBf1, zBf2, zBf3, zBf4⟩ := five BKB.out
  obtain ⟨w5, hw_⟩ : ∃ w3, w3 = (((((w4).setCell ⟨gB, 0, none⟩ (.int .i64 b0)).setCell ⟨gB, 1, none⟩ (.int .i64 b1)).setCell ⟨gB, 2, none⟩ (.string tb)).setCell ⟨gB, 3, none⟩ (.bool b3)).setCell ⟨gB, 4, none⟩ (.int .i64 b4) := ⟨_, rfl⟩
  refine last_ (i := 5) (N := none) #[true, true, true, true, true, true] rfl rfl (one_of HT_.out (by kernel_rfl)) (by decide) (fun K hK => ?_)
  refine skip_ (w1 := w5) (by rfl) rfl ?_ ?_
  · rw [hw_]
    first | (go_simp; done) | (go_simp; rfl)
  have mB_ : Aside0 (w5.heap[gB]? = some (.cells (cs5 b0 b1 tb b3 b4) 24 (0, 0))) := ⟨by rw [hw_]; exact vput BKB.out _ _ _ _ _⟩
  have mA_ : Aside0 (w5.heap[gA]? = some (.cells (cs5 a0 a1 ta a3 a4) 24 (0, 0))) := ⟨by rw [hw_]; exact vfar BKA.out NEAB _ _ _ _ _⟩
  have n0_ : Aside0 (Below w.heap.size w w5) := ⟨by rw [hw_]; exact vbel HB.out GEB.out _ _ _ _ _⟩
  clear zB0 zBf0 zB1 zBf1 zB2 zBf2 zB3 zBf3 zB4 zBf4
  clear HB hw_ BKB BKA
  have HB := n0_
  have BKB := mB_
  have BKA := mA_
  clear n0_ mB_ mA_
  refine hK.out _ _ ?_
  clear hK K
  refine done_ (done_of HT_.out (by kernel_rfl)) ?_
  obtain ⟨zA0, zA1, zA2, zA3, zA4, zAf0, zAf1, zAf2, zAf3, zAf4⟩ := five BKA.out
  obtain ⟨zB0, zB1, zB2, zB3, zB4, zBf0, zBf1, zBf2, zBf3, zBf4⟩ := five BKB.out
  cases mA with
  | false =>
    go_wp2_with (first
    | ((with_reducible refine gate_callee (f := 24) rfl ?_); (try (refine gate_guard (by rfl) ?_; dsimp only)); refine goesL_ (some 18) rfl rfl Tryz.func24 (by kernel_rfl) rfl #[.agg #[.int .i64 a0, .int .i64 a1, .string ta, .bool a3, .int .i64 a4]] rfl (by (try simp only [List.map_toArray, List.map_cons, List.map_nil]); first | done | rfl) ?_; (refine (counterpaneref1_May.calls 20000 a0 a1 ta a3 a4 _ _ HMA.out).mono ?_); rintro e_ v2 ⟨rfl, hb⟩; refine ⟨_, rfl, ?_⟩; have mA_ := Aside0.mk (blk_below (by (with_reducible repeat (first | refine blk_drewN ?_ _ | refine blk_drew ?_ | refine blk_alloc ?_ _)); exact BKA.out) hb); have mB_ := Aside0.mk (blk_below (by (with_reducible repeat (first | refine blk_drewN ?_ _ | refine blk_drew ?_ | refine blk_alloc ?_ _)); exact BKB.out) hb); have n0_ := Aside0.mk (below_step (by repeat (first | (with_reducible first | exact HB.out | apply bA | apply below_drew | apply bN | apply bD | refine below_set ?_ GEA.out | refine below_set ?_ GEB.out) | exact HB.out)) hb); clear HB BKA BKB; have HB := n0_; have BKA := mA_; have BKB := mB_; clear n0_ mA_ mB_ hb; clear zA0 zAf0 zA1 zAf1 zA2 zAf2 zA3 zAf3 zA4 zAf4; clear zB0 zBf0 zB1 zBf1 zB2 zBf2 zB3 zBf3 zB4 zBf4; obtain ⟨zA0, zA1, zA2, zA3, zA4, zAf0, zAf1, zAf2, zAf3, zAf4⟩ := five BKA.out; obtain ⟨zB0, zB1, zB2, zB3, zB4, zBf0, zBf1, zBf2, zBf3, zBf4⟩ := five BKB.out))
    go_ret
    exact ⟨by first | rfl | (simp; done) | (simp [*]; done), (by repeat (first | (with_reducible first | exact HB.out | apply bA | apply below_drew | apply bN | apply bD | refine below_set ?_ GEA.out | refine below_set ?_ GEB.out) | exact HB.out))⟩
  | true =>
  cases mB with
  | false =>
    go_wp2_with (first
    | ((with_reducible refine gate_callee (f := 24) rfl ?_); (try (refine gate_guard (by rfl) ?_; dsimp only)); refine goesL_ (some 18) rfl rfl Tryz.func24 (by kernel_rfl) rfl #[.agg #[.int .i64 a0, .int .i64 a1, .string ta, .bool a3, .int .i64 a4]] rfl (by (try simp only [List.map_toArray, List.map_cons, List.map_nil]); first | done | rfl) ?_; (refine (counterpaneref1_May.calls 20000 a0 a1 ta a3 a4 _ _ HMA.out).mono ?_); rintro e_ v2 ⟨rfl, hb⟩; refine ⟨_, rfl, ?_⟩; have mA_ := Aside0.mk (blk_below (by (with_reducible repeat (first | refine blk_drewN ?_ _ | refine blk_drew ?_ | refine blk_alloc ?_ _)); exact BKA.out) hb); have mB_ := Aside0.mk (blk_below (by (with_reducible repeat (first | refine blk_drewN ?_ _ | refine blk_drew ?_ | refine blk_alloc ?_ _)); exact BKB.out) hb); have n0_ := Aside0.mk (below_step (by repeat (first | (with_reducible first | exact HB.out | apply bA | apply below_drew | apply bN | apply bD | refine below_set ?_ GEA.out | refine below_set ?_ GEB.out) | exact HB.out)) hb); clear HB BKA BKB; have HB := n0_; have BKA := mA_; have BKB := mB_; clear n0_ mA_ mB_ hb; clear zA0 zAf0 zA1 zAf1 zA2 zAf2 zA3 zAf3 zA4 zAf4; clear zB0 zBf0 zB1 zBf1 zB2 zBf2 zB3 zBf3 zB4 zBf4; obtain ⟨zA0, zA1, zA2, zA3, zA4, zAf0, zAf1, zAf2, zAf3, zAf4⟩ := five BKA.out; obtain ⟨zB0, zB1, zB2, zB3, zB4, zBf0, zBf1, zBf2, zBf3, zBf4⟩ := five BKB.out)
    | ((with_reducible refine gate_callee (f := 24) rfl ?_); (try (refine gate_guard (by rfl) ?_; dsimp only)); refine goesL_ (some 22) rfl rfl Tryz.func24 (by kernel_rfl) rfl #[.agg #[.int .i64 b0, .int .i64 b1, .string tb, .bool b3, .int .i64 b4]] rfl (by (try simp only [List.map_toArray, List.map_cons, List.map_nil]); first | done | rfl) ?_; (refine (counterpaneref1_May.calls 20000 b0 b1 tb b3 b4 _ _ HMB.out).mono ?_); rintro e_ v3 ⟨rfl, hb⟩; refine ⟨_, rfl, ?_⟩; have mA_ := Aside0.mk (blk_below (by (with_reducible repeat (first | refine blk_drewN ?_ _ | refine blk_drew ?_ | refine blk_alloc ?_ _)); exact BKA.out) hb); have mB_ := Aside0.mk (blk_below (by (with_reducible repeat (first | refine blk_drewN ?_ _ | refine blk_drew ?_ | refine blk_alloc ?_ _)); exact BKB.out) hb); have n0_ := Aside0.mk (below_step (by repeat (first | (with_reducible first | exact HB.out | apply bA | apply below_drew | apply bN | apply bD | refine below_set ?_ GEA.out | refine below_set ?_ GEB.out) | exact HB.out)) hb); clear HB BKA BKB; have HB := n0_; have BKA := mA_; have BKB := mB_; clear n0_ mA_ mB_ hb; clear zA0 zAf0 zA1 zAf1 zA2 zAf2 zA3 zAf3 zA4 zAf4; clear zB0 zBf0 zB1 zBf1 zB2 zBf2 zB3 zBf3 zB4 zBf4; obtain ⟨zA0, zA1, zA2, zA3, zA4, zAf0, zAf1, zAf2, zAf3, zAf4⟩ := five BKA.out; obtain ⟨zB0, zB1, zB2, zB3, zB4, zBf0, zBf1, zBf2, zBf3, zBf4⟩ := five BKB.out))
    go_ret
    exact ⟨by first | rfl | (simp; done) | (simp [*]; done), (by repeat (first | (with_reducible first | exact HB.out | apply bA | apply below_drew | apply bN | apply bD | refine below_set ?_ GEA.out | refine below_set ?_ GEB.out) | exact HB.out))⟩
  | true =>
    obtain ⟨qa, qb, za, zb, ha, hb0⟩ := HZ.out
    obtain ⟨K3, hK3⟩ := call3 c (⟨a0, a1, ta, a3, a4⟩ : S24) (⟨b0, b1, tb, b3, b4⟩ : S24) ⟨qa, za, ha⟩ ⟨qb, zb, hb0⟩
    obtain ⟨K2, hK2⟩ := call2 c (⟨a0, a1, ta, a3, a4⟩ : S24) ⟨qa, za, ha⟩
    obtain ⟨⟨u0, u1, u2, u3, u4⟩, hu⟩ : ∃ u : R5, (if c = true then v5 (⟨a0, a1, ta, a3, a4⟩ : S24) else v5 (⟨b0, b1, tb, b3, b4⟩ : S24)) = u := ⟨_, rfl⟩
    obtain ⟨⟨p0, p1, p2, p3, p4⟩, hv⟩ : ∃ u : R5, (if c = true then v5 (⟨a0, a1, ta, a3, a4⟩ : S24) else (3, 0, (⟨#[]⟩ : ByteArray), false, 0)) = u := ⟨_, rfl⟩
    rw [hu] at hK3
    rw [hv] at hK2
    obtain ⟨y1, h1⟩ : ∃ y, [booX c] = y := ⟨_, rfl⟩
    obtain ⟨y2, h2⟩ : ∃ y, [(⟨a0, a1, ta, a3, a4⟩ : S24)] = y := ⟨_, rfl⟩
    obtain ⟨y3, h3⟩ : ∃ y, [(⟨b0, b1, tb, b3, b4⟩ : S24)] = y := ⟨_, rfl⟩
    have ho1 : counterpanelaw12_one.f 3 0 (⟨#[]⟩ : ByteArray) c 0 = some (false, y1) := by rw [← h1]; rfl
    have ho2 : counterpanelaw12_one.f a0 a1 ta a3 a4 = some (false, y2) := by rw [← h2]; rfl
    have ho3 : counterpanelaw12_one.f b0 b1 tb b3 b4 = some (false, y3) := by rw [← h3]; rfl
    rw [h1, h2, h3] at hK3
    rw [h1, h2] at hK2
    obtain ⟨z3, hz3⟩ : ∃ z : List S44, [(⟨false, y1⟩ : S44), ⟨false, y2⟩, ⟨false, y3⟩] = z := ⟨_, rfl⟩
    obtain ⟨z2, hz2⟩ : ∃ z : List S44, [(⟨false, y1⟩ : S44), ⟨false, y2⟩] = z := ⟨_, rfl⟩
    rw [hz3] at hK3
    rw [hz2] at hK2
    have HK3 := Aside0.mk hK3
    have HK2 := Aside0.mk hK2
    have HO1 := Aside0.mk ho1
    have HO2 := Aside0.mk ho2
    have HO3 := Aside0.mk ho3
    have HUV := Aside0.mk (And.intro hu hv)
    have HZ3 := Aside0.mk hz3
    have HZ2 := Aside0.mk hz2
    clear hK3 hK2 ho1 ho2 ho3 hu hv h1 h2 h3 hz3 hz2 HZ qa qb za zb ha hb0
    go_upto_region 7 with (first
    | ((with_reducible refine gate_callee (f := 24) rfl ?_); (try (refine gate_guard (by rfl) ?_; dsimp only)); refine goesL_ (some 18) rfl rfl Tryz.func24 (by kernel_rfl) rfl #[.agg #[.int .i64 a0, .int .i64 a1, .string ta, .bool a3, .int .i64 a4]] rfl (by (try simp only [List.map_toArray, List.map_cons, List.map_nil]); first | done | rfl) ?_; (refine (counterpaneref1_May.calls 20000 a0 a1 ta a3 a4 _ _ HMA.out).mono ?_); rintro e_ v2 ⟨rfl, hb⟩; refine ⟨_, rfl, ?_⟩; have mA_ := Aside0.mk (blk_below (by (with_reducible repeat (first | refine blk_drewN ?_ _ | refine blk_drew ?_ | refine blk_alloc ?_ _)); exact BKA.out) hb); have mB_ := Aside0.mk (blk_below (by (with_reducible repeat (first | refine blk_drewN ?_ _ | refine blk_drew ?_ | refine blk_alloc ?_ _)); exact BKB.out) hb); have n0_ := Aside0.mk (below_step (by repeat (first | (with_reducible first | exact HB.out | apply bA | apply below_drew | apply bN | apply bD | refine below_set ?_ GEA.out | refine below_set ?_ GEB.out) | exact HB.out)) hb); clear HB BKA BKB; have HB := n0_; have BKA := mA_; have BKB := mB_; clear n0_ mA_ mB_ hb; clear zA0 zAf0 zA1 zAf1 zA2 zAf2 zA3 zAf3 zA4 zAf4; clear zB0 zBf0 zB1 zBf1 zB2 zBf2 zB3 zBf3 zB4 zBf4; obtain ⟨zA0, zA1, zA2, zA3, zA4, zAf0, zAf1, zAf2, zAf3, zAf4⟩ := five BKA.out; obtain ⟨zB0, zB1, zB2, zB3, zB4, zBf0, zBf1, zBf2, zBf3, zBf4⟩ := five BKB.out)
    | ((with_reducible refine gate_callee (f := 24) rfl ?_); (try (refine gate_guard (by rfl) ?_; dsimp only)); refine goesL_ (some 22) rfl rfl Tryz.func24 (by kernel_rfl) rfl #[.agg #[.int .i64 b0, .int .i64 b1, .string tb, .bool b3, .int .i64 b4]] rfl (by (try simp only [List.map_toArray, List.map_cons, List.map_nil]); first | done | rfl) ?_; (refine (counterpaneref1_May.calls 20000 b0 b1 tb b3 b4 _ _ HMB.out).mono ?_); rintro e_ v3 ⟨rfl, hb⟩; refine ⟨_, rfl, ?_⟩; have mA_ := Aside0.mk (blk_below (by (with_reducible repeat (first | refine blk_drewN ?_ _ | refine blk_drew ?_ | refine blk_alloc ?_ _)); exact BKA.out) hb); have mB_ := Aside0.mk (blk_below (by (with_reducible repeat (first | refine blk_drewN ?_ _ | refine blk_drew ?_ | refine blk_alloc ?_ _)); exact BKB.out) hb); have n0_ := Aside0.mk (below_step (by repeat (first | (with_reducible first | exact HB.out | apply bA | apply below_drew | apply bN | apply bD | refine below_set ?_ GEA.out | refine below_set ?_ GEB.out) | exact HB.out)) hb); clear HB BKA BKB; have HB := n0_; have BKA := mA_; have BKB := mB_; clear n0_ mA_ mB_ hb; clear zA0 zAf0 zA1 zAf1 zA2 zAf2 zA3 zAf3 zA4 zAf4; clear zB0 zBf0 zB1 zBf1 zB2 zBf2 zB3 zBf3 zB4 zBf4; obtain ⟨zA0, zA1, zA2, zA3, zA4, zAf0, zAf1, zAf2, zAf3, zAf4⟩ := five BKA.out; obtain ⟨zB0, zB1, zB2, zB3, zB4, zBf0, zBf1, zBf2, zBf3, zBf4⟩ := five BKB.out))
    (try simp only [Act.put, List.setIfInBounds_toArray, List.set_cons_zero, List.set_cons_succ])
    clear zA0 zAf0 zA1 zAf1 zA2 zAf2 zA3 zAf3 zA4 zAf4
    clear zB0 zBf0 zB1 zBf1 zB2 zBf2 zB3 zBf3 zB4 zBf4
    refine start_ (n := 11) (S := fun w' => w'.heap[gA]? = some (.cells (cs5 a0 a1 ta a3 a4) 24 (0, 0)) ∧ w'.heap[gB]? = some (.cells (cs5 b0 b1 tb b3 b4) 24 (0, 0))) (ds := []) #[false, false, false, false, false, false, false, false, false, false, false] (by kernel_rfl) rfl rfl (⟨BKA.out, BKB.out⟩) (fun hHeld => ?_)
    refine with_tabW i7_tab i7_bits (fun HT_ HW_ => ?_)
    have mA_ := Aside0.mk (blk_drew BKA.out)
    have mB_ := Aside0.mk (blk_drew BKB.out)
    have n0_ := Aside0.mk (below_drew1 HB.out)
    clear HB BKA BKB
    have BKA := mA_
    have BKB := mB_
    have HB := n0_
    clear n0_ mA_ mB_
    generalize World.drew _ = wD at BKA BKB HB hHeld ⊢
    refine pure_ (i := 0) (N := some 26) (v := ?_) (a' := ?_) #[true, false, false, false, false, false, false, false, false, false, false] rfl rfl (any_of HT_.out (by kernel_rfl)) (fun _ _ _ h => h) (Or.inl ⟨by rfl, ?_⟩) ?_ ?_
    rotate_left
    · intro w'
      go_simp
      with_reducible rfl
    rotate_left
    · simp only [Act.put, List.setIfInBounds_toArray, List.set_cons_zero, List.set_cons_succ, i64_w, i32_w]
      rfl
    refine take_ (i := 3) (N := some 29) (v := ?_) (a' := ?_) #[true, false, false, true, false, false, false, false, false, false, false] rfl rfl (take_ofW HT_.out HW_.out (by kernel_rfl)) (fun _ _ _ h => h) (Or.inl ⟨by rfl, ?_⟩) hHeld ?_ ?_
    rotate_left
    · intro w' sA
      obtain ⟨sA1_, sB1_⟩ := sA
      have sA0 : w'.cell? ⟨gA, 0, none⟩ = some (.int .i64 a0) := (blk_cell sA1_ 0).trans rfl
      have sA1 : w'.cell? ⟨gA, 1, none⟩ = some (.int .i64 a1) := (blk_cell sA1_ 1).trans rfl
      have sA2 : w'.cell? ⟨gA, 2, none⟩ = some (.string ta) := (blk_cell sA1_ 2).trans rfl
      have sA3 : w'.cell? ⟨gA, 3, none⟩ = some (.bool a3) := (blk_cell sA1_ 3).trans rfl
      have sA4 : w'.cell? ⟨gA, 4, none⟩ = some (.int .i64 a4) := (blk_cell sA1_ 4).trans rfl
      have sB0 : w'.cell? ⟨gB, 0, none⟩ = some (.int .i64 b0) := (blk_cell sB1_ 0).trans rfl
      have sB1 : w'.cell? ⟨gB, 1, none⟩ = some (.int .i64 b1) := (blk_cell sB1_ 1).trans rfl
      have sB2 : w'.cell? ⟨gB, 2, none⟩ = some (.string tb) := (blk_cell sB1_ 2).trans rfl
      have sB3 : w'.cell? ⟨gB, 3, none⟩ = some (.bool b3) := (blk_cell sB1_ 3).trans rfl
      have sB4 : w'.cell? ⟨gB, 4, none⟩ = some (.int .i64 b4) := (blk_cell sB1_ 4).trans rfl
      clear sA1_ sB1_
      go_simp
      with_reducible rfl
    rotate_left
    · simp only [Act.put, List.setIfInBounds_toArray, List.set_cons_zero, List.set_cons_succ, i64_w, i32_w]
      rfl
    refine take_ (i := 5) (N := some 31) (v := ?_) (a' := ?_) #[true, false, false, true, false, true, false, false, false, false, false] rfl rfl (take_ofW HT_.out HW_.out (by kernel_rfl)) (fun _ _ _ h => h) (Or.inl ⟨by rfl, ?_⟩) hHeld ?_ ?_
    rotate_left
    · intro w' sA
      obtain ⟨sA1_, sB1_⟩ := sA
      have sA0 : w'.cell? ⟨gA, 0, none⟩ = some (.int .i64 a0) := (blk_cell sA1_ 0).trans rfl
      have sA1 : w'.cell? ⟨gA, 1, none⟩ = some (.int .i64 a1) := (blk_cell sA1_ 1).trans rfl
      have sA2 : w'.cell? ⟨gA, 2, none⟩ = some (.string ta) := (blk_cell sA1_ 2).trans rfl
      have sA3 : w'.cell? ⟨gA, 3, none⟩ = some (.bool a3) := (blk_cell sA1_ 3).trans rfl
      have sA4 : w'.cell? ⟨gA, 4, none⟩ = some (.int .i64 a4) := (blk_cell sA1_ 4).trans rfl
      have sB0 : w'.cell? ⟨gB, 0, none⟩ = some (.int .i64 b0) := (blk_cell sB1_ 0).trans rfl
      have sB1 : w'.cell? ⟨gB, 1, none⟩ = some (.int .i64 b1) := (blk_cell sB1_ 1).trans rfl
      have sB2 : w'.cell? ⟨gB, 2, none⟩ = some (.string tb) := (blk_cell sB1_ 2).trans rfl
      have sB3 : w'.cell? ⟨gB, 3, none⟩ = some (.bool b3) := (blk_cell sB1_ 3).trans rfl
      have sB4 : w'.cell? ⟨gB, 4, none⟩ = some (.int .i64 b4) := (blk_cell sB1_ 4).trans rfl
      clear sA1_ sB1_
      go_simp
      with_reducible rfl
    rotate_left
    · simp only [Act.put, List.setIfInBounds_toArray, List.set_cons_zero, List.set_cons_succ, i64_w, i32_w]
      rfl
    refine join_ (σ := Value × Value × Value × Value × Nat) 1 #[true, true, true, true, true, true, true, true, true, true, false] (fun s_ => [(27, .agg #[.int .i64 3, .int .i64 0, .string (⟨#[]⟩ : ByteArray), .bool c, .int .i64 0]), (28, .agg #[.bool false, s_.1]), (30, .agg #[.bool false, s_.2.1]), (32, .agg #[.bool false, s_.2.2.1]), (33, s_.2.2.2.1), (34, .agg #[.int .i64 u0, .int .i64 u1, .string u2, .bool u3, .int .i64 u4]), (8, .pointer (some ⟨s_.2.2.2.2, 0, none⟩))]) (fun s_ w' => Aside0 (w'.heap[gA]? = some (.cells (cs5 a0 a1 ta a3 a4) 24 (0, 0))) ∧ Aside0 (w'.heap[gB]? = some (.cells (cs5 b0 b1 tb b3 b4) 24 (0, 0))) ∧ Aside0 (w'.heap[s_.2.2.2.2]? = some (.cells (cs5 0 0 (⟨#[]⟩ : ByteArray) false 0) 24 (0, 0))) ∧ Aside0 (w.heap.size ≤ s_.2.2.2.2) ∧ gA ≠ s_.2.2.2.2 ∧ gB ≠ s_.2.2.2.2 ∧ Aside0 (Below w.heap.size w w')) ?contV (fun hcont => ?_)
    rotate_left
    · refine join_ (σ := Option Addr × Nat × Option Addr × Nat × Option Addr × Nat × Option Addr × Nat × Nat) 2 #[true, true, true, true, true, true, true, true, false, true, false] (fun s_ => [(27, .agg #[.int .i64 3, .int .i64 0, .string (⟨#[]⟩ : ByteArray), .bool c, .int .i64 0]), (28, .agg #[.bool false, .slice s_.1 y1.length s_.2.1]), (30, .agg #[.bool false, .slice s_.2.2.1 y2.length s_.2.2.2.1]), (32, .agg #[.bool false, .slice s_.2.2.2.2.1 y3.length s_.2.2.2.2.2.1]), (33, .slice s_.2.2.2.2.2.2.1 z3.length s_.2.2.2.2.2.2.2.1), (8, .pointer (some ⟨s_.2.2.2.2.2.2.2.2, 0, none⟩))]) (fun s_ w' => Aside0 (w'.heap[gA]? = some (.cells (cs5 a0 a1 ta a3 a4) 24 (0, 0))) ∧ Aside0 (w'.heap[gB]? = some (.cells (cs5 b0 b1 tb b3 b4) 24 (0, 0))) ∧ Aside0 (w'.heap[s_.2.2.2.2.2.2.2.2]? = some (.cells (cs5 0 0 (⟨#[]⟩ : ByteArray) false 0) 24 (0, 0))) ∧ Aside0 (w.heap.size ≤ s_.2.2.2.2.2.2.2.2) ∧ gA ≠ s_.2.2.2.2.2.2.2.2 ∧ gB ≠ s_.2.2.2.2.2.2.2.2 ∧ Aside0 (Kd.C k44 w' s_.2.2.2.2.2.2.1 z3.length z3) ∧ Aside0 (z3.length ≤ s_.2.2.2.2.2.2.2.1) ∧ Aside0 (Below w.heap.size w w')) (fun s_ w2 hF_ => ?_) (fun hY5 => ?_)
      · obtain ⟨A1, c1, A2, c2, A3, c3, Ap, cp, gR⟩ := s_
        obtain ⟨BKA, BKB, BKR, GER, NEAR, NEBR, HRP, HLP, HB⟩ := hF_
        refine norm_ (a' := ?_) ?_ ?_
        rotate_left
        · simp only [putAll, Act.put, List.setIfInBounds_toArray, List.set_cons_zero, List.set_cons_succ]
          rfl
        refine one_ (i := 8) (N := some 34) #[true, true, true, true, true, true, true, true, true, true, false] rfl rfl (one_of HT_.out (by kernel_rfl)) (by decide) (fun K hK => ?_)
        refine goes_ Tryz.func28 (by kernel_rfl) rfl #[.string (⟨#[73, 70]⟩ : ByteArray), .slice Ap z3.length cp] (by rfl) rfl rfl (by (try simp only [List.map_toArray, List.map_cons, List.map_nil]); first | done | rfl) ?_
        refine (builtin_Call.calls (hL := ⟨hL.out.below HB.out⟩) K3 (⟨#[73, 70]⟩ : ByteArray) _ _ z3 u0 u1 u2 u3 u4 _ HRP.out HLP.out HK3.out).mono ?_
        rintro e_ w1 ⟨rfl, hb⟩
        refine ⟨_, rfl, ?_⟩
        clear HRP HLP
        have mA_ := Aside0.mk (blk_below BKA.out hb)
        have mB_ := Aside0.mk (blk_below BKB.out hb)
        have mR_ := Aside0.mk (blk_below BKR.out hb)
        have n0_ := Aside0.mk (below_step HB.out hb)
        clear HB BKA BKB BKR
        have BKA := mA_
        have BKB := mB_
        have BKR := mR_
        have HB := n0_
        clear n0_ hb mA_ mB_ mR_
        refine hK.out _ _ (⟨BKA.out, BKB.out⟩) (fun hHeld => ?_)
        clear hK K
        refine norm_ (a' := ?_) ?_ ?_
        rotate_left
        · show Act.put _ (some 34) _ = _
          simp only [Act.put, List.setIfInBounds_toArray, List.set_cons_zero, List.set_cons_succ, i64_w, i32_w]
          rfl
        exact hcont (_, _, _, _, gR) _ ⟨BKA, BKB, BKR, GER, NEAR, NEBR, HB⟩
      refine join_ (σ := Option Addr × Nat × Option Addr × Nat × Option Addr × Nat × Option Addr × Nat × Nat) 3 #[true, true, true, true, true, true, true, false, false, true, false] (fun s_ => [(27, .agg #[.int .i64 3, .int .i64 0, .string (⟨#[]⟩ : ByteArray), .bool c, .int .i64 0]), (28, .agg #[.bool false, .slice s_.1 y1.length s_.2.1]), (30, .agg #[.bool false, .slice s_.2.2.1 y2.length s_.2.2.2.1]), (32, .agg #[.bool false, .slice s_.2.2.2.2.1 y3.length s_.2.2.2.2.2.1]), (8, .pointer (some ⟨s_.2.2.2.2.2.2.2.2, 0, none⟩))]) (fun s_ w' => Aside0 (w'.heap[gA]? = some (.cells (cs5 a0 a1 ta a3 a4) 24 (0, 0))) ∧ Aside0 (w'.heap[gB]? = some (.cells (cs5 b0 b1 tb b3 b4) 24 (0, 0))) ∧ Aside0 (w'.heap[s_.2.2.2.2.2.2.2.2]? = some (.cells (cs5 0 0 (⟨#[]⟩ : ByteArray) false 0) 24 (0, 0))) ∧ Aside0 (w.heap.size ≤ s_.2.2.2.2.2.2.2.2) ∧ gA ≠ s_.2.2.2.2.2.2.2.2 ∧ gB ≠ s_.2.2.2.2.2.2.2.2 ∧ Aside0 (Kd.F k24 w' (fun _ => True) s_.1 y1.length y1) ∧ Aside0 (y1.length ≤ s_.2.1) ∧ Aside0 (Kd.F k24 w' (fun _ => True) s_.2.2.1 y2.length y2) ∧ Aside0 (y2.length ≤ s_.2.2.2.1) ∧ Aside0 (Kd.F k24 w' (fun _ => True) s_.2.2.2.2.1 y3.length y3) ∧ Aside0 (y3.length ≤ s_.2.2.2.2.2.1) ∧ Aside0 (Below w.heap.size w w')) (fun s_ w2 hF_ => ?_) (fun hY4 => ?_)
      · obtain ⟨A1, c1, A2, c2, A3, c3, Ap, cp, gR⟩ := s_
        obtain ⟨BKA, BKB, BKR, GER, NEAR, NEBR, HF1, HLE1, HF2, HLE2, HF3, HLE3, HB⟩ := hF_
        refine norm_ (a' := ?_) ?_ ?_
        rotate_left
        · simp only [putAll, Act.put, List.setIfInBounds_toArray, List.set_cons_zero, List.set_cons_succ]
          rfl
        refine one_ (i := 7) (N := some 33) #[true, true, true, true, true, true, true, true, false, true, false] rfl rfl (one_of HT_.out (by kernel_rfl)) (by decide) (fun K hK => ?_)
        refine Kd.N_lit_step k44 _ 44 (by rfl) (N' := 33) rfl (xs := [(⟨false, y1⟩ : S44), (⟨false, y2⟩ : S44), (⟨false, y3⟩ : S44)]) (inner := [.bool false, .slice A1 y1.length c1, .bool false, .slice A2 y2.length c2, .bool false, .slice A3 y3.length c3]) (ok := (fun _ => True)) (okp := (fun _ => True)) ?hr ?hp (fun _ hk => hk) trivial (Below.refl _ _) (Nat.le_refl _) (by simp) ?_
        (case hr => first | (go_simp; done) | (go_simp; rfl))
        (case hp => exact (Reps.c2 (show Kd.FK k44 _ _ (⟨false, y1⟩ : S44) [.bool false, .slice A1 y1.length c1] from (k44_mkF _ _ (⟨false, y1⟩ : S44) HLE1.out HF1.out)) (Reps.c2 (show Kd.FK k44 _ _ (⟨false, y2⟩ : S44) [.bool false, .slice A2 y2.length c2] from (k44_mkF _ _ (⟨false, y2⟩ : S44) HLE2.out HF2.out)) (Reps.c2 (show Kd.FK k44 _ _ (⟨false, y3⟩ : S44) [.bool false, .slice A3 y3.length c3] from (k44_mkF _ _ (⟨false, y3⟩ : S44) HLE3.out HF3.out)) (Reps.none _ _)))))
        intro v_ wP ho hb hg_ hnew_
        clear hg_ hnew_ HF1 HLE1 HF2 HLE2 HF3 HLE3
        rw [HZ3.out] at ho
        obtain ⟨Ap, cp, ep, lp, rp⟩ := Kd.N_reads ho
        subst ep
        have HRP := Aside0.mk rp
        have HLP := Aside0.mk lp
        clear ho lp rp
        have mA_ := Aside0.mk (blk_below BKA.out hb)
        have mB_ := Aside0.mk (blk_below BKB.out hb)
        have mR_ := Aside0.mk (blk_below BKR.out hb)
        have n0_ := Aside0.mk (below_step HB.out hb)
        clear HB BKA BKB BKR
        have BKA := mA_
        have BKB := mB_
        have BKR := mR_
        have HB := n0_
        clear n0_ hb mA_ mB_ mR_
        refine hK.out _ _ (⟨BKA.out, BKB.out⟩) (fun hHeld => ?_)
        clear hK K
        refine norm_ (a' := ?_) ?_ ?_
        rotate_left
        · show Act.put _ (some 33) _ = _
          simp only [Act.put, List.setIfInBounds_toArray, List.set_cons_zero, List.set_cons_succ, i64_w, i32_w]
          rfl
        exact hY5 (A1, c1, A2, c2, A3, c3, Ap, cp, gR) _ ⟨BKA, BKB, BKR, GER, NEAR, NEBR, HRP, HLP, HB⟩
      refine join_ (σ := Option Addr × Nat × Option Addr × Nat × Option Addr × Nat × Option Addr × Nat × Nat) 4 #[true, true, true, true, true, true, false, false, false, true, false] (fun s_ => [(27, .agg #[.int .i64 3, .int .i64 0, .string (⟨#[]⟩ : ByteArray), .bool c, .int .i64 0]), (28, .agg #[.bool false, .slice s_.1 y1.length s_.2.1]), (30, .agg #[.bool false, .slice s_.2.2.1 y2.length s_.2.2.2.1]), (8, .pointer (some ⟨s_.2.2.2.2.2.2.2.2, 0, none⟩))]) (fun s_ w' => Aside0 (w'.heap[gA]? = some (.cells (cs5 a0 a1 ta a3 a4) 24 (0, 0))) ∧ Aside0 (w'.heap[gB]? = some (.cells (cs5 b0 b1 tb b3 b4) 24 (0, 0))) ∧ Aside0 (w'.heap[s_.2.2.2.2.2.2.2.2]? = some (.cells (cs5 0 0 (⟨#[]⟩ : ByteArray) false 0) 24 (0, 0))) ∧ Aside0 (w.heap.size ≤ s_.2.2.2.2.2.2.2.2) ∧ gA ≠ s_.2.2.2.2.2.2.2.2 ∧ gB ≠ s_.2.2.2.2.2.2.2.2 ∧ Aside0 (Kd.F k24 w' (fun _ => True) s_.1 y1.length y1) ∧ Aside0 (y1.length ≤ s_.2.1) ∧ Aside0 (Kd.F k24 w' (fun _ => True) s_.2.2.1 y2.length y2) ∧ Aside0 (y2.length ≤ s_.2.2.2.1) ∧ Aside0 (Below w.heap.size w w')) (fun s_ w2 hF_ => ?_) (fun hY3 => ?_)
      · obtain ⟨A1, c1, A2, c2, A3, c3, Ap, cp, gR⟩ := s_
        obtain ⟨BKA, BKB, BKR, GER, NEAR, NEBR, HF1, HLE1, HF2, HLE2, HB⟩ := hF_
        refine norm_ (a' := ?_) ?_ ?_
        rotate_left
        · simp only [putAll, Act.put, List.setIfInBounds_toArray, List.set_cons_zero, List.set_cons_succ]
          rfl
        refine one_ (i := 6) (N := some 32) #[true, true, true, true, true, true, true, false, false, true, false] rfl rfl (one_of HT_.out (by kernel_rfl)) (by decide) (fun K hK => ?_)
        refine goes_ Tryz.func29 (by kernel_rfl) rfl #[.agg #[.int .i64 b0, .int .i64 b1, .string tb, .bool b3, .int .i64 b4]] (by rfl) rfl rfl (by (try simp only [List.map_toArray, List.map_cons, List.map_nil]); first | done | rfl) ?_
        refine (counterpanelaw12_one.calls b0 b1 tb b3 b4 false y3 _ HO3.out).mono ?_
        rintro e_ w1 ⟨vv_, rfl, hr_, hb⟩
        refine ⟨_, rfl, ?_⟩
        obtain ⟨A3, c3, e1_⟩ := Kd.R_slice hr_
        subst e1_
        have HF3 := Aside0.mk (Kd.R_F hr_)
        have HLE3 := Aside0.mk (Kd.R_reads' hr_).2.1
        clear hr_
        have mA_ := Aside0.mk (blk_below BKA.out hb)
        have mB_ := Aside0.mk (blk_below BKB.out hb)
        have mF1_ := Aside0.mk (Kd.F_below HF1.out hb)
        have mF2_ := Aside0.mk (Kd.F_below HF2.out hb)
        have mR_ := Aside0.mk (blk_below BKR.out hb)
        have n0_ := Aside0.mk (below_step HB.out hb)
        clear HB BKA BKB HF1 HF2 BKR
        have BKA := mA_
        have BKB := mB_
        have HF1 := mF1_
        have HF2 := mF2_
        have BKR := mR_
        have HB := n0_
        clear n0_ hb mA_ mB_ mF1_ mF2_ mR_
        refine hK.out _ _ (⟨BKA.out, BKB.out⟩) (fun hHeld => ?_)
        clear hK K
        refine norm_ (a' := ?_) ?_ ?_
        rotate_left
        · show Act.put _ (some 32) _ = _
          simp only [Act.put, List.setIfInBounds_toArray, List.set_cons_zero, List.set_cons_succ, i64_w, i32_w]
          rfl
        exact hY4 (A1, c1, A2, c2, A3, c3, none, 0, gR) _ ⟨BKA, BKB, BKR, GER, NEAR, NEBR, HF1, HLE1, HF2, HLE2, HF3, HLE3, HB⟩
      refine join_ (σ := Option Addr × Nat × Option Addr × Nat × Option Addr × Nat × Option Addr × Nat × Nat) 5 #[true, true, true, true, false, true, false, false, false, true, false] (fun s_ => [(27, .agg #[.int .i64 3, .int .i64 0, .string (⟨#[]⟩ : ByteArray), .bool c, .int .i64 0]), (28, .agg #[.bool false, .slice s_.1 y1.length s_.2.1]), (8, .pointer (some ⟨s_.2.2.2.2.2.2.2.2, 0, none⟩))]) (fun s_ w' => Aside0 (w'.heap[gA]? = some (.cells (cs5 a0 a1 ta a3 a4) 24 (0, 0))) ∧ Aside0 (w'.heap[gB]? = some (.cells (cs5 b0 b1 tb b3 b4) 24 (0, 0))) ∧ Aside0 (w'.heap[s_.2.2.2.2.2.2.2.2]? = some (.cells (cs5 0 0 (⟨#[]⟩ : ByteArray) false 0) 24 (0, 0))) ∧ Aside0 (w.heap.size ≤ s_.2.2.2.2.2.2.2.2) ∧ gA ≠ s_.2.2.2.2.2.2.2.2 ∧ gB ≠ s_.2.2.2.2.2.2.2.2 ∧ Aside0 (Kd.F k24 w' (fun _ => True) s_.1 y1.length y1) ∧ Aside0 (y1.length ≤ s_.2.1) ∧ Aside0 (Below w.heap.size w w')) (fun s_ w2 hF_ => ?_) (fun hY2 => ?_)
      · obtain ⟨A1, c1, A2, c2, A3, c3, Ap, cp, gR⟩ := s_
        obtain ⟨BKA, BKB, BKR, GER, NEAR, NEBR, HF1, HLE1, HB⟩ := hF_
        refine norm_ (a' := ?_) ?_ ?_
        rotate_left
        · simp only [putAll, Act.put, List.setIfInBounds_toArray, List.set_cons_zero, List.set_cons_succ]
          rfl
        refine one_ (i := 4) (N := some 30) #[true, true, true, true, true, true, false, false, false, true, false] rfl rfl (one_of HT_.out (by kernel_rfl)) (by decide) (fun K hK => ?_)
        refine goes_ Tryz.func29 (by kernel_rfl) rfl #[.agg #[.int .i64 a0, .int .i64 a1, .string ta, .bool a3, .int .i64 a4]] (by rfl) rfl rfl (by (try simp only [List.map_toArray, List.map_cons, List.map_nil]); first | done | rfl) ?_
        refine (counterpanelaw12_one.calls a0 a1 ta a3 a4 false y2 _ HO2.out).mono ?_
        rintro e_ w1 ⟨vv_, rfl, hr_, hb⟩
        refine ⟨_, rfl, ?_⟩
        obtain ⟨A2, c2, e1_⟩ := Kd.R_slice hr_
        subst e1_
        have HF2 := Aside0.mk (Kd.R_F hr_)
        have HLE2 := Aside0.mk (Kd.R_reads' hr_).2.1
        clear hr_
        have mA_ := Aside0.mk (blk_below BKA.out hb)
        have mB_ := Aside0.mk (blk_below BKB.out hb)
        have mF1_ := Aside0.mk (Kd.F_below HF1.out hb)
        have mR_ := Aside0.mk (blk_below BKR.out hb)
        have n0_ := Aside0.mk (below_step HB.out hb)
        clear HB BKA BKB HF1 BKR
        have BKA := mA_
        have BKB := mB_
        have HF1 := mF1_
        have BKR := mR_
        have HB := n0_
        clear n0_ hb mA_ mB_ mF1_ mR_
        refine hK.out _ _ (⟨BKA.out, BKB.out⟩) (fun hHeld => ?_)
        clear hK K
        refine norm_ (a' := ?_) ?_ ?_
        rotate_left
        · show Act.put _ (some 30) _ = _
          simp only [Act.put, List.setIfInBounds_toArray, List.set_cons_zero, List.set_cons_succ, i64_w, i32_w]
          rfl
        exact hY3 (A1, c1, A2, c2, none, 0, none, 0, gR) _ ⟨BKA, BKB, BKR, GER, NEAR, NEBR, HF1, HLE1, HF2, HLE2, HB⟩
      refine join_ (σ := Option Addr × Nat × Option Addr × Nat × Option Addr × Nat × Option Addr × Nat × Nat) 6 #[true, true, false, true, false, true, false, false, false, true, false] (fun s_ => [(27, .agg #[.int .i64 3, .int .i64 0, .string (⟨#[]⟩ : ByteArray), .bool c, .int .i64 0]), (8, .pointer (some ⟨s_.2.2.2.2.2.2.2.2, 0, none⟩))]) (fun s_ w' => Aside0 (w'.heap[gA]? = some (.cells (cs5 a0 a1 ta a3 a4) 24 (0, 0))) ∧ Aside0 (w'.heap[gB]? = some (.cells (cs5 b0 b1 tb b3 b4) 24 (0, 0))) ∧ Aside0 (w'.heap[s_.2.2.2.2.2.2.2.2]? = some (.cells (cs5 0 0 (⟨#[]⟩ : ByteArray) false 0) 24 (0, 0))) ∧ Aside0 (w.heap.size ≤ s_.2.2.2.2.2.2.2.2) ∧ gA ≠ s_.2.2.2.2.2.2.2.2 ∧ gB ≠ s_.2.2.2.2.2.2.2.2 ∧ Aside0 (Below w.heap.size w w')) (fun s_ w2 hF_ => ?_) (fun hY1 => ?_)
      · obtain ⟨A1, c1, A2, c2, A3, c3, Ap, cp, gR⟩ := s_
        obtain ⟨BKA, BKB, BKR, GER, NEAR, NEBR, HB⟩ := hF_
        refine norm_ (a' := ?_) ?_ ?_
        rotate_left
        · simp only [putAll, Act.put, List.setIfInBounds_toArray, List.set_cons_zero, List.set_cons_succ]
          rfl
        refine one_ (i := 2) (N := some 28) #[true, true, true, true, false, true, false, false, false, true, false] rfl rfl (one_of HT_.out (by kernel_rfl)) (by decide) (fun K hK => ?_)
        refine goes_ Tryz.func29 (by kernel_rfl) rfl #[.agg #[.int .i64 3, .int .i64 0, .string (⟨#[]⟩ : ByteArray), .bool c, .int .i64 0]] (by rfl) rfl rfl (by (try simp only [List.map_toArray, List.map_cons, List.map_nil]); first | done | rfl) ?_
        refine (counterpanelaw12_one.calls 3 0 (⟨#[]⟩ : ByteArray) c 0 false y1 _ HO1.out).mono ?_
        rintro e_ w1 ⟨vv_, rfl, hr_, hb⟩
        refine ⟨_, rfl, ?_⟩
        obtain ⟨A1, c1, e1_⟩ := Kd.R_slice hr_
        subst e1_
        have HF1 := Aside0.mk (Kd.R_F hr_)
        have HLE1 := Aside0.mk (Kd.R_reads' hr_).2.1
        clear hr_
        have mA_ := Aside0.mk (blk_below BKA.out hb)
        have mB_ := Aside0.mk (blk_below BKB.out hb)
        have mR_ := Aside0.mk (blk_below BKR.out hb)
        have n0_ := Aside0.mk (below_step HB.out hb)
        clear HB BKA BKB BKR
        have BKA := mA_
        have BKB := mB_
        have BKR := mR_
        have HB := n0_
        clear n0_ hb mA_ mB_ mR_
        refine hK.out _ _ (⟨BKA.out, BKB.out⟩) (fun hHeld => ?_)
        clear hK K
        refine norm_ (a' := ?_) ?_ ?_
        rotate_left
        · show Act.put _ (some 28) _ = _
          simp only [Act.put, List.setIfInBounds_toArray, List.set_cons_zero, List.set_cons_succ, i64_w, i32_w]
          rfl
        exact hY2 (A1, c1, none, 0, none, 0, none, 0, gR) _ ⟨BKA, BKB, BKR, GER, NEAR, NEBR, HF1, HLE1, HB⟩
      refine two_ (i := 1) (j := 9) (Ni := some 27) (Nj := some 8) #[true, true, false, true, false, true, false, false, false, false, false] #[true, false, false, true, false, true, false, false, false, true, false] rfl rfl rfl rfl (two_of HT_.out (by kernel_rfl)) (by decide) (by decide) (fun K hK => ?_) (fun K hK => ?_)
      · refine goes_ Tryz.func30 (by kernel_rfl) rfl #[.bool c] (by rfl) rfl rfl (by (try simp only [List.map_toArray, List.map_cons, List.map_nil]); first | done | rfl) ?_
        refine (counterpaneref1_Boo.calls c 3 0 (⟨#[]⟩ : ByteArray) c 0 _ rfl).mono ?_
        rintro e_ w1 ⟨rfl, hb⟩
        refine ⟨_, rfl, ?_⟩
        have mA_ := Aside0.mk (blk_below BKA.out hb)
        have mB_ := Aside0.mk (blk_below BKB.out hb)
        have n0_ := Aside0.mk (below_step HB.out hb)
        clear HB BKA BKB
        have BKA := mA_
        have BKB := mB_
        have HB := n0_
        clear n0_ hb mA_ mB_
        refine hK.out _ _ (⟨BKA.out, BKB.out⟩) (fun hHeld => ?_)
        clear hK K
        refine norm_ (a' := ?_) ?_ ?_
        rotate_left
        · show Act.put _ (some 27) _ = _
          simp only [Act.put, List.setIfInBounds_toArray, List.set_cons_zero, List.set_cons_succ, i64_w, i32_w]
          rfl
        refine two_ (i := 2) (j := 9) (Ni := some 28) (Nj := some 8) #[true, true, true, true, false, true, false, false, false, false, false] #[true, true, false, true, false, true, false, false, false, true, false] rfl rfl rfl rfl (two_of HT_.out (by kernel_rfl)) (by decide) (by decide) (fun K hK => ?_) (fun K hK => ?_)
        · refine goes_ Tryz.func29 (by kernel_rfl) rfl #[.agg #[.int .i64 3, .int .i64 0, .string (⟨#[]⟩ : ByteArray), .bool c, .int .i64 0]] (by rfl) rfl rfl (by (try simp only [List.map_toArray, List.map_cons, List.map_nil]); first | done | rfl) ?_
          refine (counterpanelaw12_one.calls 3 0 (⟨#[]⟩ : ByteArray) c 0 false y1 _ HO1.out).mono ?_
          rintro e_ w1 ⟨vv_, rfl, hr_, hb⟩
          refine ⟨_, rfl, ?_⟩
          obtain ⟨A1, c1, e1_⟩ := Kd.R_slice hr_
          subst e1_
          have HF1 := Aside0.mk (Kd.R_F hr_)
          have HLE1 := Aside0.mk (Kd.R_reads' hr_).2.1
          clear hr_
          have mA_ := Aside0.mk (blk_below BKA.out hb)
          have mB_ := Aside0.mk (blk_below BKB.out hb)
          have n0_ := Aside0.mk (below_step HB.out hb)
          clear HB BKA BKB
          have BKA := mA_
          have BKB := mB_
          have HB := n0_
          clear n0_ hb mA_ mB_
          refine hK.out _ _ (⟨BKA.out, BKB.out⟩) (fun hHeld => ?_)
          clear hK K
          refine norm_ (a' := ?_) ?_ ?_
          rotate_left
          · show Act.put _ (some 28) _ = _
            simp only [Act.put, List.setIfInBounds_toArray, List.set_cons_zero, List.set_cons_succ, i64_w, i32_w]
            rfl
          refine two_ (i := 4) (j := 9) (Ni := some 30) (Nj := some 8) #[true, true, true, true, true, true, false, false, false, false, false] #[true, true, true, true, false, true, false, false, false, true, false] rfl rfl rfl rfl (two_of HT_.out (by kernel_rfl)) (by decide) (by decide) (fun K hK => ?_) (fun K hK => ?_)
          · refine goes_ Tryz.func29 (by kernel_rfl) rfl #[.agg #[.int .i64 a0, .int .i64 a1, .string ta, .bool a3, .int .i64 a4]] (by rfl) rfl rfl (by (try simp only [List.map_toArray, List.map_cons, List.map_nil]); first | done | rfl) ?_
            refine (counterpanelaw12_one.calls a0 a1 ta a3 a4 false y2 _ HO2.out).mono ?_
            rintro e_ w1 ⟨vv_, rfl, hr_, hb⟩
            refine ⟨_, rfl, ?_⟩
            obtain ⟨A2, c2, e1_⟩ := Kd.R_slice hr_
            subst e1_
            have HF2 := Aside0.mk (Kd.R_F hr_)
            have HLE2 := Aside0.mk (Kd.R_reads' hr_).2.1
            clear hr_
            have mA_ := Aside0.mk (blk_below BKA.out hb)
            have mB_ := Aside0.mk (blk_below BKB.out hb)
            have mF1_ := Aside0.mk (Kd.F_below HF1.out hb)
            have n0_ := Aside0.mk (below_step HB.out hb)
            clear HB BKA BKB HF1
            have BKA := mA_
            have BKB := mB_
            have HF1 := mF1_
            have HB := n0_
            clear n0_ hb mA_ mB_ mF1_
            refine hK.out _ _ (⟨BKA.out, BKB.out⟩) (fun hHeld => ?_)
            clear hK K
            refine norm_ (a' := ?_) ?_ ?_
            rotate_left
            · show Act.put _ (some 30) _ = _
              simp only [Act.put, List.setIfInBounds_toArray, List.set_cons_zero, List.set_cons_succ, i64_w, i32_w]
              rfl
            refine two_ (i := 6) (j := 9) (Ni := some 32) (Nj := some 8) #[true, true, true, true, true, true, true, false, false, false, false] #[true, true, true, true, true, true, false, false, false, true, false] rfl rfl rfl rfl (two_of HT_.out (by kernel_rfl)) (by decide) (by decide) (fun K hK => ?_) (fun K hK => ?_)
            · refine goes_ Tryz.func29 (by kernel_rfl) rfl #[.agg #[.int .i64 b0, .int .i64 b1, .string tb, .bool b3, .int .i64 b4]] (by rfl) rfl rfl (by (try simp only [List.map_toArray, List.map_cons, List.map_nil]); first | done | rfl) ?_
              refine (counterpanelaw12_one.calls b0 b1 tb b3 b4 false y3 _ HO3.out).mono ?_
              rintro e_ w1 ⟨vv_, rfl, hr_, hb⟩
              refine ⟨_, rfl, ?_⟩
              obtain ⟨A3, c3, e1_⟩ := Kd.R_slice hr_
              subst e1_
              have HF3 := Aside0.mk (Kd.R_F hr_)
              have HLE3 := Aside0.mk (Kd.R_reads' hr_).2.1
              clear hr_
              have mA_ := Aside0.mk (blk_below BKA.out hb)
              have mB_ := Aside0.mk (blk_below BKB.out hb)
              have mF1_ := Aside0.mk (Kd.F_below HF1.out hb)
              have mF2_ := Aside0.mk (Kd.F_below HF2.out hb)
              have n0_ := Aside0.mk (below_step HB.out hb)
              clear HB BKA BKB HF1 HF2
              have BKA := mA_
              have BKB := mB_
              have HF1 := mF1_
              have HF2 := mF2_
              have HB := n0_
              clear n0_ hb mA_ mB_ mF1_ mF2_
              refine hK.out _ _ (⟨BKA.out, BKB.out⟩) (fun hHeld => ?_)
              clear hK K
              refine norm_ (a' := ?_) ?_ ?_
              rotate_left
              · show Act.put _ (some 32) _ = _
                simp only [Act.put, List.setIfInBounds_toArray, List.set_cons_zero, List.set_cons_succ, i64_w, i32_w]
                rfl
              refine two_ (i := 7) (j := 9) (Ni := some 33) (Nj := some 8) #[true, true, true, true, true, true, true, true, false, false, false] #[true, true, true, true, true, true, true, false, false, true, false] rfl rfl rfl rfl (two_of HT_.out (by kernel_rfl)) (by decide) (by decide) (fun K hK => ?_) (fun K hK => ?_)
              · refine Kd.N_lit_step k44 _ 44 (by rfl) (N' := 33) rfl (xs := [(⟨false, y1⟩ : S44), (⟨false, y2⟩ : S44), (⟨false, y3⟩ : S44)]) (inner := [.bool false, .slice A1 y1.length c1, .bool false, .slice A2 y2.length c2, .bool false, .slice A3 y3.length c3]) (ok := (fun _ => True)) (okp := (fun _ => True)) ?hr ?hp (fun _ hk => hk) trivial (Below.refl _ _) (Nat.le_refl _) (by simp) ?_
                (case hr => first | (go_simp; done) | (go_simp; rfl))
                (case hp => exact (Reps.c2 (show Kd.FK k44 _ _ (⟨false, y1⟩ : S44) [.bool false, .slice A1 y1.length c1] from (k44_mkF _ _ (⟨false, y1⟩ : S44) HLE1.out HF1.out)) (Reps.c2 (show Kd.FK k44 _ _ (⟨false, y2⟩ : S44) [.bool false, .slice A2 y2.length c2] from (k44_mkF _ _ (⟨false, y2⟩ : S44) HLE2.out HF2.out)) (Reps.c2 (show Kd.FK k44 _ _ (⟨false, y3⟩ : S44) [.bool false, .slice A3 y3.length c3] from (k44_mkF _ _ (⟨false, y3⟩ : S44) HLE3.out HF3.out)) (Reps.none _ _)))))
                intro v_ wP ho hb hg_ hnew_
                clear hg_ hnew_ HF1 HLE1 HF2 HLE2 HF3 HLE3
                rw [HZ3.out] at ho
                obtain ⟨Ap, cp, ep, lp, rp⟩ := Kd.N_reads ho
                subst ep
                have HRP := Aside0.mk rp
                have HLP := Aside0.mk lp
                clear ho lp rp
                have mA_ := Aside0.mk (blk_below BKA.out hb)
                have mB_ := Aside0.mk (blk_below BKB.out hb)
                have n0_ := Aside0.mk (below_step HB.out hb)
                clear HB BKA BKB
                have BKA := mA_
                have BKB := mB_
                have HB := n0_
                clear n0_ hb mA_ mB_
                refine hK.out _ _ (⟨BKA.out, BKB.out⟩) (fun hHeld => ?_)
                clear hK K
                refine norm_ (a' := ?_) ?_ ?_
                rotate_left
                · show Act.put _ (some 33) _ = _
                  simp only [Act.put, List.setIfInBounds_toArray, List.set_cons_zero, List.set_cons_succ, i64_w, i32_w]
                  rfl
                refine two_ (i := 8) (j := 9) (Ni := some 34) (Nj := some 8) #[true, true, true, true, true, true, true, true, true, false, false] #[true, true, true, true, true, true, true, true, false, true, false] rfl rfl rfl rfl (two_of HT_.out (by kernel_rfl)) (by decide) (by decide) (fun K hK => ?_) (fun K hK => ?_)
                · refine goes_ Tryz.func28 (by kernel_rfl) rfl #[.string (⟨#[73, 70]⟩ : ByteArray), .slice Ap z3.length cp] (by rfl) rfl rfl (by (try simp only [List.map_toArray, List.map_cons, List.map_nil]); first | done | rfl) ?_
                  refine (builtin_Call.calls (hL := ⟨hL.out.below HB.out⟩) K3 (⟨#[73, 70]⟩ : ByteArray) _ _ z3 u0 u1 u2 u3 u4 _ HRP.out HLP.out HK3.out).mono ?_
                  rintro e_ w1 ⟨rfl, hb⟩
                  refine ⟨_, rfl, ?_⟩
                  clear HRP HLP
                  have mA_ := Aside0.mk (blk_below BKA.out hb)
                  have mB_ := Aside0.mk (blk_below BKB.out hb)
                  have n0_ := Aside0.mk (below_step HB.out hb)
                  clear HB BKA BKB
                  have BKA := mA_
                  have BKB := mB_
                  have HB := n0_
                  clear n0_ hb mA_ mB_
                  refine hK.out _ _ (⟨BKA.out, BKB.out⟩) (fun hHeld => ?_)
                  clear hK K
                  refine norm_ (a' := ?_) ?_ ?_
                  rotate_left
                  · show Act.put _ (some 34) _ = _
                    simp only [Act.put, List.setIfInBounds_toArray, List.set_cons_zero, List.set_cons_succ, i64_w, i32_w]
                    rfl
                  refine one_ (i := 9) (N := some 8) #[true, true, true, true, true, true, true, true, true, true, false] rfl rfl (one_of HT_.out (by kernel_rfl)) (by decide) (fun K hK => ?_)
                  refine box_step (by rfl) (N := 8) rfl (cs := cs5 0 0 (⟨#[]⟩ : ByteArray) false 0) (t := 24) ?hr ?_
                  (case hr => first | (go_simp; done) | (go_simp; rfl))
                  intro gR hg wR hbox hb
                  have GER : Aside0 (w.heap.size ≤ gR) := ⟨by rw [hg]; exact below_size HB.out⟩
                  have NEAR : gA ≠ gR := by rw [hg]; exact Nat.ne_of_lt (blk_lt BKA.out)
                  have NEBR : gB ≠ gR := by rw [hg]; exact Nat.ne_of_lt (blk_lt BKB.out)
                  have mX_ := Aside0.mk hbox
                  have mA_ := Aside0.mk (blk_below BKA.out hb)
                  have mB_ := Aside0.mk (blk_below BKB.out hb)
                  have n0_ := Aside0.mk (below_step HB.out hb)
                  clear HB BKA BKB
                  have BKA := mA_
                  have BKB := mB_
                  have HB := n0_
                  clear n0_ hb mA_ mB_
                  have BKR := mX_
                  clear mX_ hbox hg
                  refine hK.out _ _ (⟨BKA.out, BKB.out⟩) (fun hHeld => ?_)
                  clear hK K
                  refine norm_ (a' := ?_) ?_ ?_
                  rotate_left
                  · show Act.put _ (some 8) _ = _
                    simp only [Act.put, List.setIfInBounds_toArray, List.set_cons_zero, List.set_cons_succ, i64_w, i32_w]
                    rfl
                  exact hcont (_, _, _, _, gR) _ ⟨BKA, BKB, BKR, GER, NEAR, NEBR, HB⟩
                · refine box_step (by rfl) (N := 8) rfl (cs := cs5 0 0 (⟨#[]⟩ : ByteArray) false 0) (t := 24) ?hr ?_
                  (case hr => first | (go_simp; done) | (go_simp; rfl))
                  intro gR hg wR hbox hb
                  have GER : Aside0 (w.heap.size ≤ gR) := ⟨by rw [hg]; exact below_size HB.out⟩
                  have NEAR : gA ≠ gR := by rw [hg]; exact Nat.ne_of_lt (blk_lt BKA.out)
                  have NEBR : gB ≠ gR := by rw [hg]; exact Nat.ne_of_lt (blk_lt BKB.out)
                  have mX_ := Aside0.mk hbox
                  have mA_ := Aside0.mk (blk_below BKA.out hb)
                  have mB_ := Aside0.mk (blk_below BKB.out hb)
                  have mP_ := Aside0.mk (Kd.C_below HRP.out hb)
                  have n0_ := Aside0.mk (below_step HB.out hb)
                  clear HB BKA BKB HRP
                  have BKA := mA_
                  have BKB := mB_
                  have HRP := mP_
                  have HB := n0_
                  clear n0_ hb mA_ mB_ mP_
                  have BKR := mX_
                  clear mX_ hbox hg
                  refine hK.out _ _ (⟨BKA.out, BKB.out⟩) (fun hHeld => ?_)
                  clear hK K
                  refine norm_ (a' := ?_) ?_ ?_
                  rotate_left
                  · show Act.put _ (some 8) _ = _
                    simp only [Act.put, List.setIfInBounds_toArray, List.set_cons_zero, List.set_cons_succ, i64_w, i32_w]
                    rfl
                  exact hY5 (A1, c1, A2, c2, A3, c3, Ap, cp, gR) _ ⟨BKA, BKB, BKR, GER, NEAR, NEBR, HRP, HLP, HB⟩
              · refine box_step (by rfl) (N := 8) rfl (cs := cs5 0 0 (⟨#[]⟩ : ByteArray) false 0) (t := 24) ?hr ?_
                (case hr => first | (go_simp; done) | (go_simp; rfl))
                intro gR hg wR hbox hb
                have GER : Aside0 (w.heap.size ≤ gR) := ⟨by rw [hg]; exact below_size HB.out⟩
                have NEAR : gA ≠ gR := by rw [hg]; exact Nat.ne_of_lt (blk_lt BKA.out)
                have NEBR : gB ≠ gR := by rw [hg]; exact Nat.ne_of_lt (blk_lt BKB.out)
                have mX_ := Aside0.mk hbox
                have mA_ := Aside0.mk (blk_below BKA.out hb)
                have mB_ := Aside0.mk (blk_below BKB.out hb)
                have mF1_ := Aside0.mk (Kd.F_below HF1.out hb)
                have mF2_ := Aside0.mk (Kd.F_below HF2.out hb)
                have mF3_ := Aside0.mk (Kd.F_below HF3.out hb)
                have n0_ := Aside0.mk (below_step HB.out hb)
                clear HB BKA BKB HF1 HF2 HF3
                have BKA := mA_
                have BKB := mB_
                have HF1 := mF1_
                have HF2 := mF2_
                have HF3 := mF3_
                have HB := n0_
                clear n0_ hb mA_ mB_ mF1_ mF2_ mF3_
                have BKR := mX_
                clear mX_ hbox hg
                refine hK.out _ _ (⟨BKA.out, BKB.out⟩) (fun hHeld => ?_)
                clear hK K
                refine norm_ (a' := ?_) ?_ ?_
                rotate_left
                · show Act.put _ (some 8) _ = _
                  simp only [Act.put, List.setIfInBounds_toArray, List.set_cons_zero, List.set_cons_succ, i64_w, i32_w]
                  rfl
                exact hY4 (A1, c1, A2, c2, A3, c3, none, 0, gR) _ ⟨BKA, BKB, BKR, GER, NEAR, NEBR, HF1, HLE1, HF2, HLE2, HF3, HLE3, HB⟩
            · refine box_step (by rfl) (N := 8) rfl (cs := cs5 0 0 (⟨#[]⟩ : ByteArray) false 0) (t := 24) ?hr ?_
              (case hr => first | (go_simp; done) | (go_simp; rfl))
              intro gR hg wR hbox hb
              have GER : Aside0 (w.heap.size ≤ gR) := ⟨by rw [hg]; exact below_size HB.out⟩
              have NEAR : gA ≠ gR := by rw [hg]; exact Nat.ne_of_lt (blk_lt BKA.out)
              have NEBR : gB ≠ gR := by rw [hg]; exact Nat.ne_of_lt (blk_lt BKB.out)
              have mX_ := Aside0.mk hbox
              have mA_ := Aside0.mk (blk_below BKA.out hb)
              have mB_ := Aside0.mk (blk_below BKB.out hb)
              have mF1_ := Aside0.mk (Kd.F_below HF1.out hb)
              have mF2_ := Aside0.mk (Kd.F_below HF2.out hb)
              have n0_ := Aside0.mk (below_step HB.out hb)
              clear HB BKA BKB HF1 HF2
              have BKA := mA_
              have BKB := mB_
              have HF1 := mF1_
              have HF2 := mF2_
              have HB := n0_
              clear n0_ hb mA_ mB_ mF1_ mF2_
              have BKR := mX_
              clear mX_ hbox hg
              refine hK.out _ _ (⟨BKA.out, BKB.out⟩) (fun hHeld => ?_)
              clear hK K
              refine norm_ (a' := ?_) ?_ ?_
              rotate_left
              · show Act.put _ (some 8) _ = _
                simp only [Act.put, List.setIfInBounds_toArray, List.set_cons_zero, List.set_cons_succ, i64_w, i32_w]
                rfl
              exact hY3 (A1, c1, A2, c2, none, 0, none, 0, gR) _ ⟨BKA, BKB, BKR, GER, NEAR, NEBR, HF1, HLE1, HF2, HLE2, HB⟩
          · refine box_step (by rfl) (N := 8) rfl (cs := cs5 0 0 (⟨#[]⟩ : ByteArray) false 0) (t := 24) ?hr ?_
            (case hr => first | (go_simp; done) | (go_simp; rfl))
            intro gR hg wR hbox hb
            have GER : Aside0 (w.heap.size ≤ gR) := ⟨by rw [hg]; exact below_size HB.out⟩
            have NEAR : gA ≠ gR := by rw [hg]; exact Nat.ne_of_lt (blk_lt BKA.out)
            have NEBR : gB ≠ gR := by rw [hg]; exact Nat.ne_of_lt (blk_lt BKB.out)
            have mX_ := Aside0.mk hbox
            have mA_ := Aside0.mk (blk_below BKA.out hb)
            have mB_ := Aside0.mk (blk_below BKB.out hb)
            have mF1_ := Aside0.mk (Kd.F_below HF1.out hb)
            have n0_ := Aside0.mk (below_step HB.out hb)
            clear HB BKA BKB HF1
            have BKA := mA_
            have BKB := mB_
            have HF1 := mF1_
            have HB := n0_
            clear n0_ hb mA_ mB_ mF1_
            have BKR := mX_
            clear mX_ hbox hg
            refine hK.out _ _ (⟨BKA.out, BKB.out⟩) (fun hHeld => ?_)
            clear hK K
            refine norm_ (a' := ?_) ?_ ?_
            rotate_left
            · show Act.put _ (some 8) _ = _
              simp only [Act.put, List.setIfInBounds_toArray, List.set_cons_zero, List.set_cons_succ, i64_w, i32_w]
              rfl
            exact hY2 (A1, c1, none, 0, none, 0, none, 0, gR) _ ⟨BKA, BKB, BKR, GER, NEAR, NEBR, HF1, HLE1, HB⟩
        · refine box_step (by rfl) (N := 8) rfl (cs := cs5 0 0 (⟨#[]⟩ : ByteArray) false 0) (t := 24) ?hr ?_
          (case hr => first | (go_simp; done) | (go_simp; rfl))
          intro gR hg wR hbox hb
          have GER : Aside0 (w.heap.size ≤ gR) := ⟨by rw [hg]; exact below_size HB.out⟩
          have NEAR : gA ≠ gR := by rw [hg]; exact Nat.ne_of_lt (blk_lt BKA.out)
          have NEBR : gB ≠ gR := by rw [hg]; exact Nat.ne_of_lt (blk_lt BKB.out)
          have mX_ := Aside0.mk hbox
          have mA_ := Aside0.mk (blk_below BKA.out hb)
          have mB_ := Aside0.mk (blk_below BKB.out hb)
          have n0_ := Aside0.mk (below_step HB.out hb)
          clear HB BKA BKB
          have BKA := mA_
          have BKB := mB_
          have HB := n0_
          clear n0_ hb mA_ mB_
          have BKR := mX_
          clear mX_ hbox hg
          refine hK.out _ _ (⟨BKA.out, BKB.out⟩) (fun hHeld => ?_)
          clear hK K
          refine norm_ (a' := ?_) ?_ ?_
          rotate_left
          · show Act.put _ (some 8) _ = _
            simp only [Act.put, List.setIfInBounds_toArray, List.set_cons_zero, List.set_cons_succ, i64_w, i32_w]
            rfl
          exact hY1 (none, 0, none, 0, none, 0, none, 0, gR) _ ⟨BKA, BKB, BKR, GER, NEAR, NEBR, HB⟩
      · refine box_step (by rfl) (N := 8) rfl (cs := cs5 0 0 (⟨#[]⟩ : ByteArray) false 0) (t := 24) ?hr ?_
        (case hr => first | (go_simp; done) | (go_simp; rfl))
        intro gR hg wR hbox hb
        have GER : Aside0 (w.heap.size ≤ gR) := ⟨by rw [hg]; exact below_size HB.out⟩
        have NEAR : gA ≠ gR := by rw [hg]; exact Nat.ne_of_lt (blk_lt BKA.out)
        have NEBR : gB ≠ gR := by rw [hg]; exact Nat.ne_of_lt (blk_lt BKB.out)
        have mX_ := Aside0.mk hbox
        have mA_ := Aside0.mk (blk_below BKA.out hb)
        have mB_ := Aside0.mk (blk_below BKB.out hb)
        have n0_ := Aside0.mk (below_step HB.out hb)
        clear HB BKA BKB
        have BKA := mA_
        have BKB := mB_
        have HB := n0_
        clear n0_ hb mA_ mB_
        have BKR := mX_
        clear mX_ hbox hg
        refine hK.out _ _ (⟨BKA.out, BKB.out⟩) (fun hHeld => ?_)
        clear hK K
        refine norm_ (a' := ?_) ?_ ?_
        rotate_left
        · show Act.put _ (some 8) _ = _
          simp only [Act.put, List.setIfInBounds_toArray, List.set_cons_zero, List.set_cons_succ, i64_w, i32_w]
          rfl
        refine one_ (i := 1) (N := some 27) #[true, true, false, true, false, true, false, false, false, true, false] rfl rfl (one_of HT_.out (by kernel_rfl)) (by decide) (fun K hK => ?_)
        refine goes_ Tryz.func30 (by kernel_rfl) rfl #[.bool c] (by rfl) rfl rfl (by (try simp only [List.map_toArray, List.map_cons, List.map_nil]); first | done | rfl) ?_
        refine (counterpaneref1_Boo.calls c 3 0 (⟨#[]⟩ : ByteArray) c 0 _ rfl).mono ?_
        rintro e_ w1 ⟨rfl, hb⟩
        refine ⟨_, rfl, ?_⟩
        have mA_ := Aside0.mk (blk_below BKA.out hb)
        have mB_ := Aside0.mk (blk_below BKB.out hb)
        have mR_ := Aside0.mk (blk_below BKR.out hb)
        have n0_ := Aside0.mk (below_step HB.out hb)
        clear HB BKA BKB BKR
        have BKA := mA_
        have BKB := mB_
        have BKR := mR_
        have HB := n0_
        clear n0_ hb mA_ mB_ mR_
        refine hK.out _ _ (⟨BKA.out, BKB.out⟩) (fun hHeld => ?_)
        clear hK K
        refine norm_ (a' := ?_) ?_ ?_
        rotate_left
        · show Act.put _ (some 27) _ = _
          simp only [Act.put, List.setIfInBounds_toArray, List.set_cons_zero, List.set_cons_succ, i64_w, i32_w]
          rfl
        exact hY1 (none, 0, none, 0, none, 0, none, 0, gR) _ ⟨BKA, BKB, BKR, GER, NEAR, NEBR, HB⟩
    intro s_ w2 hF_
    obtain ⟨vv1, vv2, vv3, vv4, gV⟩ := s_
    obtain ⟨BKA, BKB, BKV, GEV, NEAV, NEBV, HB⟩ := hF_
    refine norm_ (a' := ?_) ?_ ?_
    rotate_left
    · simp only [putAll, Act.put, List.setIfInBounds_toArray, List.set_cons_zero, List.set_cons_succ]
      rfl
    obtain ⟨zV0, zV1, zV2, zV3, zV4, zVf0, zVf1, zVf2, zVf3, zVf4⟩ := five BKV.out
    obtain ⟨w3, hw_⟩ : ∃ w3, w3 = (((((w2).setCell ⟨gV, 0, none⟩ (.int .i64 u0)).setCell ⟨gV, 1, none⟩ (.int .i64 u1)).setCell ⟨gV, 2, none⟩ (.string u2)).setCell ⟨gV, 3, none⟩ (.bool u3)).setCell ⟨gV, 4, none⟩ (.int .i64 u4) := ⟨_, rfl⟩
    refine one_ (i := 10) (N := none) #[true, true, true, true, true, true, true, true, true, true, true] rfl rfl (one_of HT_.out (by kernel_rfl)) (by decide) (fun K hK => ?_)
    refine skip_ (w1 := w3) (by rfl) rfl ?_ ?_
    · rw [hw_]
      first | (go_simp; done) | (go_simp; rfl)
    have mV_ : Aside0 (w3.heap[gV]? = some (.cells (cs5 u0 u1 u2 u3 u4) 24 (0, 0))) := ⟨by rw [hw_]; exact vput BKV.out _ _ _ _ _⟩
    have mA_ : Aside0 (w3.heap[gA]? = some (.cells (cs5 a0 a1 ta a3 a4) 24 (0, 0))) := ⟨by rw [hw_]; exact vfar BKA.out NEAV _ _ _ _ _⟩
    have mB_ : Aside0 (w3.heap[gB]? = some (.cells (cs5 b0 b1 tb b3 b4) 24 (0, 0))) := ⟨by rw [hw_]; exact vfar BKB.out NEBV _ _ _ _ _⟩
    have n0_ : Aside0 (Below w.heap.size w w3) := ⟨by rw [hw_]; exact vbel HB.out GEV.out _ _ _ _ _⟩
    clear zV0 zVf0 zV1 zVf1 zV2 zVf2 zV3 zVf3 zV4 zVf4
    clear HB hw_ BKV BKA BKB
    have HB := n0_
    have BKV := mV_
    have BKA := mA_
    have BKB := mB_
    clear n0_ mV_ mA_ mB_
    refine hK.out _ _ (⟨BKA.out, BKB.out⟩) (fun hHeld => ?_)
    clear hK K
    refine done_ (done_of HT_.out (by kernel_rfl)) ?_
    go_upto_region 8 with (fail)
    (try simp only [Act.put, List.setIfInBounds_toArray, List.set_cons_zero, List.set_cons_succ])
    refine start_ (n := 9) (S := fun w' => w'.heap[gA]? = some (.cells (cs5 a0 a1 ta a3 a4) 24 (0, 0))) (ds := []) #[false, false, false, false, false, false, false, false, false] (by kernel_rfl) rfl rfl (BKA.out) (fun hHeld => ?_)
    refine with_tabW i8_tab i8_bits (fun HT_ HW_ => ?_)
    have mA_ := Aside0.mk (blk_drew BKA.out)
    have mB_ := Aside0.mk (blk_drew BKB.out)
    have mV_ := Aside0.mk (blk_drew BKV.out)
    have n0_ := Aside0.mk (below_drew1 HB.out)
    clear HB BKA BKB BKV
    have BKA := mA_
    have BKB := mB_
    have BKV := mV_
    have HB := n0_
    clear n0_ mA_ mB_ mV_
    generalize World.drew _ = wD at BKA BKB BKV HB hHeld ⊢
    refine pure_ (i := 0) (N := some 35) (v := ?_) (a' := ?_) #[true, false, false, false, false, false, false, false, false] rfl rfl (any_of HT_.out (by kernel_rfl)) (fun _ _ _ h => h) (Or.inl ⟨by rfl, ?_⟩) ?_ ?_
    rotate_left
    · intro w'
      go_simp
      with_reducible rfl
    rotate_left
    · simp only [Act.put, List.setIfInBounds_toArray, List.set_cons_zero, List.set_cons_succ, i64_w, i32_w]
      rfl
    refine take_ (i := 3) (N := some 38) (v := ?_) (a' := ?_) #[true, false, false, true, false, false, false, false, false] rfl rfl (take_ofW HT_.out HW_.out (by kernel_rfl)) (fun _ _ _ h => h) (Or.inl ⟨by rfl, ?_⟩) hHeld ?_ ?_
    rotate_left
    · intro w' sA
      have sA1_ := sA
      have sA0 : w'.cell? ⟨gA, 0, none⟩ = some (.int .i64 a0) := (blk_cell sA1_ 0).trans rfl
      have sA1 : w'.cell? ⟨gA, 1, none⟩ = some (.int .i64 a1) := (blk_cell sA1_ 1).trans rfl
      have sA2 : w'.cell? ⟨gA, 2, none⟩ = some (.string ta) := (blk_cell sA1_ 2).trans rfl
      have sA3 : w'.cell? ⟨gA, 3, none⟩ = some (.bool a3) := (blk_cell sA1_ 3).trans rfl
      have sA4 : w'.cell? ⟨gA, 4, none⟩ = some (.int .i64 a4) := (blk_cell sA1_ 4).trans rfl
      clear sA1_
      go_simp
      with_reducible rfl
    rotate_left
    · simp only [Act.put, List.setIfInBounds_toArray, List.set_cons_zero, List.set_cons_succ, i64_w, i32_w]
      rfl
    refine join_ (σ := Value × Value × Value × Value × Nat) 1 #[true, true, true, true, true, true, true, true, false] (fun s_ => [(36, .agg #[.int .i64 3, .int .i64 0, .string (⟨#[]⟩ : ByteArray), .bool c, .int .i64 0]), (37, .agg #[.bool false, s_.1]), (39, .agg #[.bool false, s_.2.1]), (40, s_.2.2.1), (41, .agg #[.int .i64 p0, .int .i64 p1, .string p2, .bool p3, .int .i64 p4]), (9, .pointer (some ⟨s_.2.2.2.2, 0, none⟩))]) (fun s_ w' => Aside0 (w'.heap[gA]? = some (.cells (cs5 a0 a1 ta a3 a4) 24 (0, 0))) ∧ Aside0 (w'.heap[gB]? = some (.cells (cs5 b0 b1 tb b3 b4) 24 (0, 0))) ∧ Aside0 (w'.heap[gV]? = some (.cells (cs5 u0 u1 u2 u3 u4) 24 (0, 0))) ∧ Aside0 (w'.heap[s_.2.2.2.2]? = some (.cells (cs5 0 0 (⟨#[]⟩ : ByteArray) false 0) 24 (0, 0))) ∧ Aside0 (w.heap.size ≤ s_.2.2.2.2) ∧ gA ≠ s_.2.2.2.2 ∧ gB ≠ s_.2.2.2.2 ∧ gV ≠ s_.2.2.2.2 ∧ Aside0 (Below w.heap.size w w')) ?contR (fun hcont => ?_)
    rotate_left
    · refine join_ (σ := Option Addr × Nat × Option Addr × Nat × Option Addr × Nat × Option Addr × Nat × Nat) 2 #[true, true, true, true, true, true, false, true, false] (fun s_ => [(36, .agg #[.int .i64 3, .int .i64 0, .string (⟨#[]⟩ : ByteArray), .bool c, .int .i64 0]), (37, .agg #[.bool false, .slice s_.1 y1.length s_.2.1]), (39, .agg #[.bool false, .slice s_.2.2.1 y2.length s_.2.2.2.1]), (40, .slice s_.2.2.2.2.2.2.1 z2.length s_.2.2.2.2.2.2.2.1), (9, .pointer (some ⟨s_.2.2.2.2.2.2.2.2, 0, none⟩))]) (fun s_ w' => Aside0 (w'.heap[gA]? = some (.cells (cs5 a0 a1 ta a3 a4) 24 (0, 0))) ∧ Aside0 (w'.heap[gB]? = some (.cells (cs5 b0 b1 tb b3 b4) 24 (0, 0))) ∧ Aside0 (w'.heap[gV]? = some (.cells (cs5 u0 u1 u2 u3 u4) 24 (0, 0))) ∧ Aside0 (w'.heap[s_.2.2.2.2.2.2.2.2]? = some (.cells (cs5 0 0 (⟨#[]⟩ : ByteArray) false 0) 24 (0, 0))) ∧ Aside0 (w.heap.size ≤ s_.2.2.2.2.2.2.2.2) ∧ gA ≠ s_.2.2.2.2.2.2.2.2 ∧ gB ≠ s_.2.2.2.2.2.2.2.2 ∧ gV ≠ s_.2.2.2.2.2.2.2.2 ∧ Aside0 (Kd.C k44 w' s_.2.2.2.2.2.2.1 z2.length z2) ∧ Aside0 (z2.length ≤ s_.2.2.2.2.2.2.2.1) ∧ Aside0 (Below w.heap.size w w')) (fun s_ w2 hF_ => ?_) (fun hY4 => ?_)
      · obtain ⟨A1, c1, A2, c2, A3, c3, Ap, cp, gR⟩ := s_
        obtain ⟨BKA, BKB, BKV, BKR, GER, NEAR, NEBR, NEVR, HRP, HLP, HB⟩ := hF_
        refine norm_ (a' := ?_) ?_ ?_
        rotate_left
        · simp only [putAll, Act.put, List.setIfInBounds_toArray, List.set_cons_zero, List.set_cons_succ]
          rfl
        refine one_ (i := 6) (N := some 41) #[true, true, true, true, true, true, true, true, false] rfl rfl (one_of HT_.out (by kernel_rfl)) (by decide) (fun K hK => ?_)
        refine goes_ Tryz.func28 (by kernel_rfl) rfl #[.string (⟨#[73, 70]⟩ : ByteArray), .slice Ap z2.length cp] (by rfl) rfl rfl (by (try simp only [List.map_toArray, List.map_cons, List.map_nil]); first | done | rfl) ?_
        refine (builtin_Call.calls (hL := ⟨hL.out.below HB.out⟩) K2 (⟨#[73, 70]⟩ : ByteArray) _ _ z2 p0 p1 p2 p3 p4 _ HRP.out HLP.out HK2.out).mono ?_
        rintro e_ w1 ⟨rfl, hb⟩
        refine ⟨_, rfl, ?_⟩
        clear HRP HLP
        have mA_ := Aside0.mk (blk_below BKA.out hb)
        have mB_ := Aside0.mk (blk_below BKB.out hb)
        have mV_ := Aside0.mk (blk_below BKV.out hb)
        have mR_ := Aside0.mk (blk_below BKR.out hb)
        have n0_ := Aside0.mk (below_step HB.out hb)
        clear HB BKA BKB BKV BKR
        have BKA := mA_
        have BKB := mB_
        have BKV := mV_
        have BKR := mR_
        have HB := n0_
        clear n0_ hb mA_ mB_ mV_ mR_
        refine hK.out _ _ (BKA.out) (fun hHeld => ?_)
        clear hK K
        refine norm_ (a' := ?_) ?_ ?_
        rotate_left
        · show Act.put _ (some 41) _ = _
          simp only [Act.put, List.setIfInBounds_toArray, List.set_cons_zero, List.set_cons_succ, i64_w, i32_w]
          rfl
        exact hcont (_, _, _, .bool false, gR) _ ⟨BKA, BKB, BKV, BKR, GER, NEAR, NEBR, NEVR, HB⟩
      refine join_ (σ := Option Addr × Nat × Option Addr × Nat × Option Addr × Nat × Option Addr × Nat × Nat) 3 #[true, true, true, true, true, false, false, true, false] (fun s_ => [(36, .agg #[.int .i64 3, .int .i64 0, .string (⟨#[]⟩ : ByteArray), .bool c, .int .i64 0]), (37, .agg #[.bool false, .slice s_.1 y1.length s_.2.1]), (39, .agg #[.bool false, .slice s_.2.2.1 y2.length s_.2.2.2.1]), (9, .pointer (some ⟨s_.2.2.2.2.2.2.2.2, 0, none⟩))]) (fun s_ w' => Aside0 (w'.heap[gA]? = some (.cells (cs5 a0 a1 ta a3 a4) 24 (0, 0))) ∧ Aside0 (w'.heap[gB]? = some (.cells (cs5 b0 b1 tb b3 b4) 24 (0, 0))) ∧ Aside0 (w'.heap[gV]? = some (.cells (cs5 u0 u1 u2 u3 u4) 24 (0, 0))) ∧ Aside0 (w'.heap[s_.2.2.2.2.2.2.2.2]? = some (.cells (cs5 0 0 (⟨#[]⟩ : ByteArray) false 0) 24 (0, 0))) ∧ Aside0 (w.heap.size ≤ s_.2.2.2.2.2.2.2.2) ∧ gA ≠ s_.2.2.2.2.2.2.2.2 ∧ gB ≠ s_.2.2.2.2.2.2.2.2 ∧ gV ≠ s_.2.2.2.2.2.2.2.2 ∧ Aside0 (Kd.F k24 w' (fun _ => True) s_.1 y1.length y1) ∧ Aside0 (y1.length ≤ s_.2.1) ∧ Aside0 (Kd.F k24 w' (fun _ => True) s_.2.2.1 y2.length y2) ∧ Aside0 (y2.length ≤ s_.2.2.2.1) ∧ Aside0 (Below w.heap.size w w')) (fun s_ w2 hF_ => ?_) (fun hY3 => ?_)
      · obtain ⟨A1, c1, A2, c2, A3, c3, Ap, cp, gR⟩ := s_
        obtain ⟨BKA, BKB, BKV, BKR, GER, NEAR, NEBR, NEVR, HF1, HLE1, HF2, HLE2, HB⟩ := hF_
        refine norm_ (a' := ?_) ?_ ?_
        rotate_left
        · simp only [putAll, Act.put, List.setIfInBounds_toArray, List.set_cons_zero, List.set_cons_succ]
          rfl
        refine one_ (i := 5) (N := some 40) #[true, true, true, true, true, true, false, true, false] rfl rfl (one_of HT_.out (by kernel_rfl)) (by decide) (fun K hK => ?_)
        refine Kd.N_lit_step k44 _ 44 (by rfl) (N' := 40) rfl (xs := [(⟨false, y1⟩ : S44), (⟨false, y2⟩ : S44)]) (inner := [.bool false, .slice A1 y1.length c1, .bool false, .slice A2 y2.length c2]) (ok := (fun _ => True)) (okp := (fun _ => True)) ?hr ?hp (fun _ hk => hk) trivial (Below.refl _ _) (Nat.le_refl _) (by simp) ?_
        (case hr => first | (go_simp; done) | (go_simp; rfl))
        (case hp => exact (Reps.c2 (show Kd.FK k44 _ _ (⟨false, y1⟩ : S44) [.bool false, .slice A1 y1.length c1] from (k44_mkF _ _ (⟨false, y1⟩ : S44) HLE1.out HF1.out)) (Reps.c2 (show Kd.FK k44 _ _ (⟨false, y2⟩ : S44) [.bool false, .slice A2 y2.length c2] from (k44_mkF _ _ (⟨false, y2⟩ : S44) HLE2.out HF2.out)) (Reps.none _ _))))
        intro v_ wP ho hb hg_ hnew_
        clear hg_ hnew_ HF1 HLE1 HF2 HLE2
        rw [HZ2.out] at ho
        obtain ⟨Ap, cp, ep, lp, rp⟩ := Kd.N_reads ho
        subst ep
        have HRP := Aside0.mk rp
        have HLP := Aside0.mk lp
        clear ho lp rp
        have mA_ := Aside0.mk (blk_below BKA.out hb)
        have mB_ := Aside0.mk (blk_below BKB.out hb)
        have mV_ := Aside0.mk (blk_below BKV.out hb)
        have mR_ := Aside0.mk (blk_below BKR.out hb)
        have n0_ := Aside0.mk (below_step HB.out hb)
        clear HB BKA BKB BKV BKR
        have BKA := mA_
        have BKB := mB_
        have BKV := mV_
        have BKR := mR_
        have HB := n0_
        clear n0_ hb mA_ mB_ mV_ mR_
        refine hK.out _ _ (BKA.out) (fun hHeld => ?_)
        clear hK K
        refine norm_ (a' := ?_) ?_ ?_
        rotate_left
        · show Act.put _ (some 40) _ = _
          simp only [Act.put, List.setIfInBounds_toArray, List.set_cons_zero, List.set_cons_succ, i64_w, i32_w]
          rfl
        exact hY4 (A1, c1, A2, c2, none, 0, Ap, cp, gR) _ ⟨BKA, BKB, BKV, BKR, GER, NEAR, NEBR, NEVR, HRP, HLP, HB⟩
      refine join_ (σ := Option Addr × Nat × Option Addr × Nat × Option Addr × Nat × Option Addr × Nat × Nat) 4 #[true, true, true, true, false, false, false, true, false] (fun s_ => [(36, .agg #[.int .i64 3, .int .i64 0, .string (⟨#[]⟩ : ByteArray), .bool c, .int .i64 0]), (37, .agg #[.bool false, .slice s_.1 y1.length s_.2.1]), (9, .pointer (some ⟨s_.2.2.2.2.2.2.2.2, 0, none⟩))]) (fun s_ w' => Aside0 (w'.heap[gA]? = some (.cells (cs5 a0 a1 ta a3 a4) 24 (0, 0))) ∧ Aside0 (w'.heap[gB]? = some (.cells (cs5 b0 b1 tb b3 b4) 24 (0, 0))) ∧ Aside0 (w'.heap[gV]? = some (.cells (cs5 u0 u1 u2 u3 u4) 24 (0, 0))) ∧ Aside0 (w'.heap[s_.2.2.2.2.2.2.2.2]? = some (.cells (cs5 0 0 (⟨#[]⟩ : ByteArray) false 0) 24 (0, 0))) ∧ Aside0 (w.heap.size ≤ s_.2.2.2.2.2.2.2.2) ∧ gA ≠ s_.2.2.2.2.2.2.2.2 ∧ gB ≠ s_.2.2.2.2.2.2.2.2 ∧ gV ≠ s_.2.2.2.2.2.2.2.2 ∧ Aside0 (Kd.F k24 w' (fun _ => True) s_.1 y1.length y1) ∧ Aside0 (y1.length ≤ s_.2.1) ∧ Aside0 (Below w.heap.size w w')) (fun s_ w2 hF_ => ?_) (fun hY2 => ?_)
      · obtain ⟨A1, c1, A2, c2, A3, c3, Ap, cp, gR⟩ := s_
        obtain ⟨BKA, BKB, BKV, BKR, GER, NEAR, NEBR, NEVR, HF1, HLE1, HB⟩ := hF_
        refine norm_ (a' := ?_) ?_ ?_
        rotate_left
        · simp only [putAll, Act.put, List.setIfInBounds_toArray, List.set_cons_zero, List.set_cons_succ]
          rfl
        refine one_ (i := 4) (N := some 39) #[true, true, true, true, true, false, false, true, false] rfl rfl (one_of HT_.out (by kernel_rfl)) (by decide) (fun K hK => ?_)
        refine goes_ Tryz.func29 (by kernel_rfl) rfl #[.agg #[.int .i64 a0, .int .i64 a1, .string ta, .bool a3, .int .i64 a4]] (by rfl) rfl rfl (by (try simp only [List.map_toArray, List.map_cons, List.map_nil]); first | done | rfl) ?_
        refine (counterpanelaw12_one.calls a0 a1 ta a3 a4 false y2 _ HO2.out).mono ?_
        rintro e_ w1 ⟨vv_, rfl, hr_, hb⟩
        refine ⟨_, rfl, ?_⟩
        obtain ⟨A2, c2, e1_⟩ := Kd.R_slice hr_
        subst e1_
        have HF2 := Aside0.mk (Kd.R_F hr_)
        have HLE2 := Aside0.mk (Kd.R_reads' hr_).2.1
        clear hr_
        have mA_ := Aside0.mk (blk_below BKA.out hb)
        have mB_ := Aside0.mk (blk_below BKB.out hb)
        have mV_ := Aside0.mk (blk_below BKV.out hb)
        have mF1_ := Aside0.mk (Kd.F_below HF1.out hb)
        have mR_ := Aside0.mk (blk_below BKR.out hb)
        have n0_ := Aside0.mk (below_step HB.out hb)
        clear HB BKA BKB BKV HF1 BKR
        have BKA := mA_
        have BKB := mB_
        have BKV := mV_
        have HF1 := mF1_
        have BKR := mR_
        have HB := n0_
        clear n0_ hb mA_ mB_ mV_ mF1_ mR_
        refine hK.out _ _ (BKA.out) (fun hHeld => ?_)
        clear hK K
        refine norm_ (a' := ?_) ?_ ?_
        rotate_left
        · show Act.put _ (some 39) _ = _
          simp only [Act.put, List.setIfInBounds_toArray, List.set_cons_zero, List.set_cons_succ, i64_w, i32_w]
          rfl
        exact hY3 (A1, c1, A2, c2, none, 0, none, 0, gR) _ ⟨BKA, BKB, BKV, BKR, GER, NEAR, NEBR, NEVR, HF1, HLE1, HF2, HLE2, HB⟩
      refine join_ (σ := Option Addr × Nat × Option Addr × Nat × Option Addr × Nat × Option Addr × Nat × Nat) 5 #[true, true, false, true, false, false, false, true, false] (fun s_ => [(36, .agg #[.int .i64 3, .int .i64 0, .string (⟨#[]⟩ : ByteArray), .bool c, .int .i64 0]), (9, .pointer (some ⟨s_.2.2.2.2.2.2.2.2, 0, none⟩))]) (fun s_ w' => Aside0 (w'.heap[gA]? = some (.cells (cs5 a0 a1 ta a3 a4) 24 (0, 0))) ∧ Aside0 (w'.heap[gB]? = some (.cells (cs5 b0 b1 tb b3 b4) 24 (0, 0))) ∧ Aside0 (w'.heap[gV]? = some (.cells (cs5 u0 u1 u2 u3 u4) 24 (0, 0))) ∧ Aside0 (w'.heap[s_.2.2.2.2.2.2.2.2]? = some (.cells (cs5 0 0 (⟨#[]⟩ : ByteArray) false 0) 24 (0, 0))) ∧ Aside0 (w.heap.size ≤ s_.2.2.2.2.2.2.2.2) ∧ gA ≠ s_.2.2.2.2.2.2.2.2 ∧ gB ≠ s_.2.2.2.2.2.2.2.2 ∧ gV ≠ s_.2.2.2.2.2.2.2.2 ∧ Aside0 (Below w.heap.size w w')) (fun s_ w2 hF_ => ?_) (fun hY1 => ?_)
      · obtain ⟨A1, c1, A2, c2, A3, c3, Ap, cp, gR⟩ := s_
        obtain ⟨BKA, BKB, BKV, BKR, GER, NEAR, NEBR, NEVR, HB⟩ := hF_
        refine norm_ (a' := ?_) ?_ ?_
        rotate_left
        · simp only [putAll, Act.put, List.setIfInBounds_toArray, List.set_cons_zero, List.set_cons_succ]
          rfl
        refine one_ (i := 2) (N := some 37) #[true, true, true, true, false, false, false, true, false] rfl rfl (one_of HT_.out (by kernel_rfl)) (by decide) (fun K hK => ?_)
        refine goes_ Tryz.func29 (by kernel_rfl) rfl #[.agg #[.int .i64 3, .int .i64 0, .string (⟨#[]⟩ : ByteArray), .bool c, .int .i64 0]] (by rfl) rfl rfl (by (try simp only [List.map_toArray, List.map_cons, List.map_nil]); first | done | rfl) ?_
        refine (counterpanelaw12_one.calls 3 0 (⟨#[]⟩ : ByteArray) c 0 false y1 _ HO1.out).mono ?_
        rintro e_ w1 ⟨vv_, rfl, hr_, hb⟩
        refine ⟨_, rfl, ?_⟩
        obtain ⟨A1, c1, e1_⟩ := Kd.R_slice hr_
        subst e1_
        have HF1 := Aside0.mk (Kd.R_F hr_)
        have HLE1 := Aside0.mk (Kd.R_reads' hr_).2.1
        clear hr_
        have mA_ := Aside0.mk (blk_below BKA.out hb)
        have mB_ := Aside0.mk (blk_below BKB.out hb)
        have mV_ := Aside0.mk (blk_below BKV.out hb)
        have mR_ := Aside0.mk (blk_below BKR.out hb)
        have n0_ := Aside0.mk (below_step HB.out hb)
        clear HB BKA BKB BKV BKR
        have BKA := mA_
        have BKB := mB_
        have BKV := mV_
        have BKR := mR_
        have HB := n0_
        clear n0_ hb mA_ mB_ mV_ mR_
        refine hK.out _ _ (BKA.out) (fun hHeld => ?_)
        clear hK K
        refine norm_ (a' := ?_) ?_ ?_
        rotate_left
        · show Act.put _ (some 37) _ = _
          simp only [Act.put, List.setIfInBounds_toArray, List.set_cons_zero, List.set_cons_succ, i64_w, i32_w]
          rfl
        exact hY2 (A1, c1, none, 0, none, 0, none, 0, gR) _ ⟨BKA, BKB, BKV, BKR, GER, NEAR, NEBR, NEVR, HF1, HLE1, HB⟩
      refine two_ (i := 1) (j := 7) (Ni := some 36) (Nj := some 9) #[true, true, false, true, false, false, false, false, false] #[true, false, false, true, false, false, false, true, false] rfl rfl rfl rfl (two_of HT_.out (by kernel_rfl)) (by decide) (by decide) (fun K hK => ?_) (fun K hK => ?_)
      · refine goes_ Tryz.func30 (by kernel_rfl) rfl #[.bool c] (by rfl) rfl rfl (by (try simp only [List.map_toArray, List.map_cons, List.map_nil]); first | done | rfl) ?_
        refine (counterpaneref1_Boo.calls c 3 0 (⟨#[]⟩ : ByteArray) c 0 _ rfl).mono ?_
        rintro e_ w1 ⟨rfl, hb⟩
        refine ⟨_, rfl, ?_⟩
        have mA_ := Aside0.mk (blk_below BKA.out hb)
        have mB_ := Aside0.mk (blk_below BKB.out hb)
        have mV_ := Aside0.mk (blk_below BKV.out hb)
        have n0_ := Aside0.mk (below_step HB.out hb)
        clear HB BKA BKB BKV
        have BKA := mA_
        have BKB := mB_
        have BKV := mV_
        have HB := n0_
        clear n0_ hb mA_ mB_ mV_
        refine hK.out _ _ (BKA.out) (fun hHeld => ?_)
        clear hK K
        refine norm_ (a' := ?_) ?_ ?_
        rotate_left
        · show Act.put _ (some 36) _ = _
          simp only [Act.put, List.setIfInBounds_toArray, List.set_cons_zero, List.set_cons_succ, i64_w, i32_w]
          rfl
        refine two_ (i := 2) (j := 7) (Ni := some 37) (Nj := some 9) #[true, true, true, true, false, false, false, false, false] #[true, true, false, true, false, false, false, true, false] rfl rfl rfl rfl (two_of HT_.out (by kernel_rfl)) (by decide) (by decide) (fun K hK => ?_) (fun K hK => ?_)
        · refine goes_ Tryz.func29 (by kernel_rfl) rfl #[.agg #[.int .i64 3, .int .i64 0, .string (⟨#[]⟩ : ByteArray), .bool c, .int .i64 0]] (by rfl) rfl rfl (by (try simp only [List.map_toArray, List.map_cons, List.map_nil]); first | done | rfl) ?_
          refine (counterpanelaw12_one.calls 3 0 (⟨#[]⟩ : ByteArray) c 0 false y1 _ HO1.out).mono ?_
          rintro e_ w1 ⟨vv_, rfl, hr_, hb⟩
          refine ⟨_, rfl, ?_⟩
          obtain ⟨A1, c1, e1_⟩ := Kd.R_slice hr_
          subst e1_
          have HF1 := Aside0.mk (Kd.R_F hr_)
          have HLE1 := Aside0.mk (Kd.R_reads' hr_).2.1
          clear hr_
          have mA_ := Aside0.mk (blk_below BKA.out hb)
          have mB_ := Aside0.mk (blk_below BKB.out hb)
          have mV_ := Aside0.mk (blk_below BKV.out hb)
          have n0_ := Aside0.mk (below_step HB.out hb)
          clear HB BKA BKB BKV
          have BKA := mA_
          have BKB := mB_
          have BKV := mV_
          have HB := n0_
          clear n0_ hb mA_ mB_ mV_
          refine hK.out _ _ (BKA.out) (fun hHeld => ?_)
          clear hK K
          refine norm_ (a' := ?_) ?_ ?_
          rotate_left
          · show Act.put _ (some 37) _ = _
            simp only [Act.put, List.setIfInBounds_toArray, List.set_cons_zero, List.set_cons_succ, i64_w, i32_w]
            rfl
          refine two_ (i := 4) (j := 7) (Ni := some 39) (Nj := some 9) #[true, true, true, true, true, false, false, false, false] #[true, true, true, true, false, false, false, true, false] rfl rfl rfl rfl (two_of HT_.out (by kernel_rfl)) (by decide) (by decide) (fun K hK => ?_) (fun K hK => ?_)
          · refine goes_ Tryz.func29 (by kernel_rfl) rfl #[.agg #[.int .i64 a0, .int .i64 a1, .string ta, .bool a3, .int .i64 a4]] (by rfl) rfl rfl (by (try simp only [List.map_toArray, List.map_cons, List.map_nil]); first | done | rfl) ?_
            refine (counterpanelaw12_one.calls a0 a1 ta a3 a4 false y2 _ HO2.out).mono ?_
            rintro e_ w1 ⟨vv_, rfl, hr_, hb⟩
            refine ⟨_, rfl, ?_⟩
            obtain ⟨A2, c2, e1_⟩ := Kd.R_slice hr_
            subst e1_
            have HF2 := Aside0.mk (Kd.R_F hr_)
            have HLE2 := Aside0.mk (Kd.R_reads' hr_).2.1
            clear hr_
            have mA_ := Aside0.mk (blk_below BKA.out hb)
            have mB_ := Aside0.mk (blk_below BKB.out hb)
            have mV_ := Aside0.mk (blk_below BKV.out hb)
            have mF1_ := Aside0.mk (Kd.F_below HF1.out hb)
            have n0_ := Aside0.mk (below_step HB.out hb)
            clear HB BKA BKB BKV HF1
            have BKA := mA_
            have BKB := mB_
            have BKV := mV_
            have HF1 := mF1_
            have HB := n0_
            clear n0_ hb mA_ mB_ mV_ mF1_
            refine hK.out _ _ (BKA.out) (fun hHeld => ?_)
            clear hK K
            refine norm_ (a' := ?_) ?_ ?_
            rotate_left
            · show Act.put _ (some 39) _ = _
              simp only [Act.put, List.setIfInBounds_toArray, List.set_cons_zero, List.set_cons_succ, i64_w, i32_w]
              rfl
            refine two_ (i := 5) (j := 7) (Ni := some 40) (Nj := some 9) #[true, true, true, true, true, true, false, false, false] #[true, true, true, true, true, false, false, true, false] rfl rfl rfl rfl (two_of HT_.out (by kernel_rfl)) (by decide) (by decide) (fun K hK => ?_) (fun K hK => ?_)
            · refine Kd.N_lit_step k44 _ 44 (by rfl) (N' := 40) rfl (xs := [(⟨false, y1⟩ : S44), (⟨false, y2⟩ : S44)]) (inner := [.bool false, .slice A1 y1.length c1, .bool false, .slice A2 y2.length c2]) (ok := (fun _ => True)) (okp := (fun _ => True)) ?hr ?hp (fun _ hk => hk) trivial (Below.refl _ _) (Nat.le_refl _) (by simp) ?_
              (case hr => first | (go_simp; done) | (go_simp; rfl))
              (case hp => exact (Reps.c2 (show Kd.FK k44 _ _ (⟨false, y1⟩ : S44) [.bool false, .slice A1 y1.length c1] from (k44_mkF _ _ (⟨false, y1⟩ : S44) HLE1.out HF1.out)) (Reps.c2 (show Kd.FK k44 _ _ (⟨false, y2⟩ : S44) [.bool false, .slice A2 y2.length c2] from (k44_mkF _ _ (⟨false, y2⟩ : S44) HLE2.out HF2.out)) (Reps.none _ _))))
              intro v_ wP ho hb hg_ hnew_
              clear hg_ hnew_ HF1 HLE1 HF2 HLE2
              rw [HZ2.out] at ho
              obtain ⟨Ap, cp, ep, lp, rp⟩ := Kd.N_reads ho
              subst ep
              have HRP := Aside0.mk rp
              have HLP := Aside0.mk lp
              clear ho lp rp
              have mA_ := Aside0.mk (blk_below BKA.out hb)
              have mB_ := Aside0.mk (blk_below BKB.out hb)
              have mV_ := Aside0.mk (blk_below BKV.out hb)
              have n0_ := Aside0.mk (below_step HB.out hb)
              clear HB BKA BKB BKV
              have BKA := mA_
              have BKB := mB_
              have BKV := mV_
              have HB := n0_
              clear n0_ hb mA_ mB_ mV_
              refine hK.out _ _ (BKA.out) (fun hHeld => ?_)
              clear hK K
              refine norm_ (a' := ?_) ?_ ?_
              rotate_left
              · show Act.put _ (some 40) _ = _
                simp only [Act.put, List.setIfInBounds_toArray, List.set_cons_zero, List.set_cons_succ, i64_w, i32_w]
                rfl
              refine two_ (i := 6) (j := 7) (Ni := some 41) (Nj := some 9) #[true, true, true, true, true, true, true, false, false] #[true, true, true, true, true, true, false, true, false] rfl rfl rfl rfl (two_of HT_.out (by kernel_rfl)) (by decide) (by decide) (fun K hK => ?_) (fun K hK => ?_)
              · refine goes_ Tryz.func28 (by kernel_rfl) rfl #[.string (⟨#[73, 70]⟩ : ByteArray), .slice Ap z2.length cp] (by rfl) rfl rfl (by (try simp only [List.map_toArray, List.map_cons, List.map_nil]); first | done | rfl) ?_
                refine (builtin_Call.calls (hL := ⟨hL.out.below HB.out⟩) K2 (⟨#[73, 70]⟩ : ByteArray) _ _ z2 p0 p1 p2 p3 p4 _ HRP.out HLP.out HK2.out).mono ?_
                rintro e_ w1 ⟨rfl, hb⟩
                refine ⟨_, rfl, ?_⟩
                clear HRP HLP
                have mA_ := Aside0.mk (blk_below BKA.out hb)
                have mB_ := Aside0.mk (blk_below BKB.out hb)
                have mV_ := Aside0.mk (blk_below BKV.out hb)
                have n0_ := Aside0.mk (below_step HB.out hb)
                clear HB BKA BKB BKV
                have BKA := mA_
                have BKB := mB_
                have BKV := mV_
                have HB := n0_
                clear n0_ hb mA_ mB_ mV_
                refine hK.out _ _ (BKA.out) (fun hHeld => ?_)
                clear hK K
                refine norm_ (a' := ?_) ?_ ?_
                rotate_left
                · show Act.put _ (some 41) _ = _
                  simp only [Act.put, List.setIfInBounds_toArray, List.set_cons_zero, List.set_cons_succ, i64_w, i32_w]
                  rfl
                refine one_ (i := 7) (N := some 9) #[true, true, true, true, true, true, true, true, false] rfl rfl (one_of HT_.out (by kernel_rfl)) (by decide) (fun K hK => ?_)
                refine box_step (by rfl) (N := 9) rfl (cs := cs5 0 0 (⟨#[]⟩ : ByteArray) false 0) (t := 24) ?hr ?_
                (case hr => first | (go_simp; done) | (go_simp; rfl))
                intro gR hg wR hbox hb
                have GER : Aside0 (w.heap.size ≤ gR) := ⟨by rw [hg]; exact below_size HB.out⟩
                have NEAR : gA ≠ gR := by rw [hg]; exact Nat.ne_of_lt (blk_lt BKA.out)
                have NEBR : gB ≠ gR := by rw [hg]; exact Nat.ne_of_lt (blk_lt BKB.out)
                have NEVR : gV ≠ gR := by rw [hg]; exact Nat.ne_of_lt (blk_lt BKV.out)
                have mX_ := Aside0.mk hbox
                have mA_ := Aside0.mk (blk_below BKA.out hb)
                have mB_ := Aside0.mk (blk_below BKB.out hb)
                have mV_ := Aside0.mk (blk_below BKV.out hb)
                have n0_ := Aside0.mk (below_step HB.out hb)
                clear HB BKA BKB BKV
                have BKA := mA_
                have BKB := mB_
                have BKV := mV_
                have HB := n0_
                clear n0_ hb mA_ mB_ mV_
                have BKR := mX_
                clear mX_ hbox hg
                refine hK.out _ _ (BKA.out) (fun hHeld => ?_)
                clear hK K
                refine norm_ (a' := ?_) ?_ ?_
                rotate_left
                · show Act.put _ (some 9) _ = _
                  simp only [Act.put, List.setIfInBounds_toArray, List.set_cons_zero, List.set_cons_succ, i64_w, i32_w]
                  rfl
                exact hcont (_, _, _, .bool false, gR) _ ⟨BKA, BKB, BKV, BKR, GER, NEAR, NEBR, NEVR, HB⟩
              · refine box_step (by rfl) (N := 9) rfl (cs := cs5 0 0 (⟨#[]⟩ : ByteArray) false 0) (t := 24) ?hr ?_
                (case hr => first | (go_simp; done) | (go_simp; rfl))
                intro gR hg wR hbox hb
                have GER : Aside0 (w.heap.size ≤ gR) := ⟨by rw [hg]; exact below_size HB.out⟩
                have NEAR : gA ≠ gR := by rw [hg]; exact Nat.ne_of_lt (blk_lt BKA.out)
                have NEBR : gB ≠ gR := by rw [hg]; exact Nat.ne_of_lt (blk_lt BKB.out)
                have NEVR : gV ≠ gR := by rw [hg]; exact Nat.ne_of_lt (blk_lt BKV.out)
                have mX_ := Aside0.mk hbox
                have mA_ := Aside0.mk (blk_below BKA.out hb)
                have mB_ := Aside0.mk (blk_below BKB.out hb)
                have mV_ := Aside0.mk (blk_below BKV.out hb)
                have mP_ := Aside0.mk (Kd.C_below HRP.out hb)
                have n0_ := Aside0.mk (below_step HB.out hb)
                clear HB BKA BKB BKV HRP
                have BKA := mA_
                have BKB := mB_
                have BKV := mV_
                have HRP := mP_
                have HB := n0_
                clear n0_ hb mA_ mB_ mV_ mP_
                have BKR := mX_
                clear mX_ hbox hg
                refine hK.out _ _ (BKA.out) (fun hHeld => ?_)
                clear hK K
                refine norm_ (a' := ?_) ?_ ?_
                rotate_left
                · show Act.put _ (some 9) _ = _
                  simp only [Act.put, List.setIfInBounds_toArray, List.set_cons_zero, List.set_cons_succ, i64_w, i32_w]
                  rfl
                exact hY4 (A1, c1, A2, c2, none, 0, Ap, cp, gR) _ ⟨BKA, BKB, BKV, BKR, GER, NEAR, NEBR, NEVR, HRP, HLP, HB⟩
            · refine box_step (by rfl) (N := 9) rfl (cs := cs5 0 0 (⟨#[]⟩ : ByteArray) false 0) (t := 24) ?hr ?_
              (case hr => first | (go_simp; done) | (go_simp; rfl))
              intro gR hg wR hbox hb
              have GER : Aside0 (w.heap.size ≤ gR) := ⟨by rw [hg]; exact below_size HB.out⟩
              have NEAR : gA ≠ gR := by rw [hg]; exact Nat.ne_of_lt (blk_lt BKA.out)
              have NEBR : gB ≠ gR := by rw [hg]; exact Nat.ne_of_lt (blk_lt BKB.out)
              have NEVR : gV ≠ gR := by rw [hg]; exact Nat.ne_of_lt (blk_lt BKV.out)
              have mX_ := Aside0.mk hbox
              have mA_ := Aside0.mk (blk_below BKA.out hb)
              have mB_ := Aside0.mk (blk_below BKB.out hb)
              have mV_ := Aside0.mk (blk_below BKV.out hb)
              have mF1_ := Aside0.mk (Kd.F_below HF1.out hb)
              have mF2_ := Aside0.mk (Kd.F_below HF2.out hb)
              have n0_ := Aside0.mk (below_step HB.out hb)
              clear HB BKA BKB BKV HF1 HF2
              have BKA := mA_
              have BKB := mB_
              have BKV := mV_
              have HF1 := mF1_
              have HF2 := mF2_
              have HB := n0_
              clear n0_ hb mA_ mB_ mV_ mF1_ mF2_
              have BKR := mX_
              clear mX_ hbox hg
              refine hK.out _ _ (BKA.out) (fun hHeld => ?_)
              clear hK K
              refine norm_ (a' := ?_) ?_ ?_
              rotate_left
              · show Act.put _ (some 9) _ = _
                simp only [Act.put, List.setIfInBounds_toArray, List.set_cons_zero, List.set_cons_succ, i64_w, i32_w]
                rfl
              exact hY3 (A1, c1, A2, c2, none, 0, none, 0, gR) _ ⟨BKA, BKB, BKV, BKR, GER, NEAR, NEBR, NEVR, HF1, HLE1, HF2, HLE2, HB⟩
          · refine box_step (by rfl) (N := 9) rfl (cs := cs5 0 0 (⟨#[]⟩ : ByteArray) false 0) (t := 24) ?hr ?_
            (case hr => first | (go_simp; done) | (go_simp; rfl))
            intro gR hg wR hbox hb
            have GER : Aside0 (w.heap.size ≤ gR) := ⟨by rw [hg]; exact below_size HB.out⟩
            have NEAR : gA ≠ gR := by rw [hg]; exact Nat.ne_of_lt (blk_lt BKA.out)
            have NEBR : gB ≠ gR := by rw [hg]; exact Nat.ne_of_lt (blk_lt BKB.out)
            have NEVR : gV ≠ gR := by rw [hg]; exact Nat.ne_of_lt (blk_lt BKV.out)
            have mX_ := Aside0.mk hbox
            have mA_ := Aside0.mk (blk_below BKA.out hb)
            have mB_ := Aside0.mk (blk_below BKB.out hb)
            have mV_ := Aside0.mk (blk_below BKV.out hb)
            have mF1_ := Aside0.mk (Kd.F_below HF1.out hb)
            have n0_ := Aside0.mk (below_step HB.out hb)
            clear HB BKA BKB BKV HF1
            have BKA := mA_
            have BKB := mB_
            have BKV := mV_
            have HF1 := mF1_
            have HB := n0_
            clear n0_ hb mA_ mB_ mV_ mF1_
            have BKR := mX_
            clear mX_ hbox hg
            refine hK.out _ _ (BKA.out) (fun hHeld => ?_)
            clear hK K
            refine norm_ (a' := ?_) ?_ ?_
            rotate_left
            · show Act.put _ (some 9) _ = _
              simp only [Act.put, List.setIfInBounds_toArray, List.set_cons_zero, List.set_cons_succ, i64_w, i32_w]
              rfl
            exact hY2 (A1, c1, none, 0, none, 0, none, 0, gR) _ ⟨BKA, BKB, BKV, BKR, GER, NEAR, NEBR, NEVR, HF1, HLE1, HB⟩
        · refine box_step (by rfl) (N := 9) rfl (cs := cs5 0 0 (⟨#[]⟩ : ByteArray) false 0) (t := 24) ?hr ?_
          (case hr => first | (go_simp; done) | (go_simp; rfl))
          intro gR hg wR hbox hb
          have GER : Aside0 (w.heap.size ≤ gR) := ⟨by rw [hg]; exact below_size HB.out⟩
          have NEAR : gA ≠ gR := by rw [hg]; exact Nat.ne_of_lt (blk_lt BKA.out)
          have NEBR : gB ≠ gR := by rw [hg]; exact Nat.ne_of_lt (blk_lt BKB.out)
          have NEVR : gV ≠ gR := by rw [hg]; exact Nat.ne_of_lt (blk_lt BKV.out)
          have mX_ := Aside0.mk hbox
          have mA_ := Aside0.mk (blk_below BKA.out hb)
          have mB_ := Aside0.mk (blk_below BKB.out hb)
          have mV_ := Aside0.mk (blk_below BKV.out hb)
          have n0_ := Aside0.mk (below_step HB.out hb)
          clear HB BKA BKB BKV
          have BKA := mA_
          have BKB := mB_
          have BKV := mV_
          have HB := n0_
          clear n0_ hb mA_ mB_ mV_
          have BKR := mX_
          clear mX_ hbox hg
          refine hK.out _ _ (BKA.out) (fun hHeld => ?_)
          clear hK K
          refine norm_ (a' := ?_) ?_ ?_
          rotate_left
          · show Act.put _ (some 9) _ = _
            simp only [Act.put, List.setIfInBounds_toArray, List.set_cons_zero, List.set_cons_succ, i64_w, i32_w]
            rfl
          exact hY1 (none, 0, none, 0, none, 0, none, 0, gR) _ ⟨BKA, BKB, BKV, BKR, GER, NEAR, NEBR, NEVR, HB⟩
      · refine box_step (by rfl) (N := 9) rfl (cs := cs5 0 0 (⟨#[]⟩ : ByteArray) false 0) (t := 24) ?hr ?_
        (case hr => first | (go_simp; done) | (go_simp; rfl))
        intro gR hg wR hbox hb
        have GER : Aside0 (w.heap.size ≤ gR) := ⟨by rw [hg]; exact below_size HB.out⟩
        have NEAR : gA ≠ gR := by rw [hg]; exact Nat.ne_of_lt (blk_lt BKA.out)
        have NEBR : gB ≠ gR := by rw [hg]; exact Nat.ne_of_lt (blk_lt BKB.out)
        have NEVR : gV ≠ gR := by rw [hg]; exact Nat.ne_of_lt (blk_lt BKV.out)
        have mX_ := Aside0.mk hbox
        have mA_ := Aside0.mk (blk_below BKA.out hb)
        have mB_ := Aside0.mk (blk_below BKB.out hb)
        have mV_ := Aside0.mk (blk_below BKV.out hb)
        have n0_ := Aside0.mk (below_step HB.out hb)
        clear HB BKA BKB BKV
        have BKA := mA_
        have BKB := mB_
        have BKV := mV_
        have HB := n0_
        clear n0_ hb mA_ mB_ mV_
        have BKR := mX_
        clear mX_ hbox hg
        refine hK.out _ _ (BKA.out) (fun hHeld => ?_)
        clear hK K
        refine norm_ (a' := ?_) ?_ ?_
        rotate_left
        · show Act.put _ (some 9) _ = _
          simp only [Act.put, List.setIfInBounds_toArray, List.set_cons_zero, List.set_cons_succ, i64_w, i32_w]
          rfl
        refine one_ (i := 1) (N := some 36) #[true, true, false, true, false, false, false, true, false] rfl rfl (one_of HT_.out (by kernel_rfl)) (by decide) (fun K hK => ?_)
        refine goes_ Tryz.func30 (by kernel_rfl) rfl #[.bool c] (by rfl) rfl rfl (by (try simp only [List.map_toArray, List.map_cons, List.map_nil]); first | done | rfl) ?_
        refine (counterpaneref1_Boo.calls c 3 0 (⟨#[]⟩ : ByteArray) c 0 _ rfl).mono ?_
        rintro e_ w1 ⟨rfl, hb⟩
        refine ⟨_, rfl, ?_⟩
        have mA_ := Aside0.mk (blk_below BKA.out hb)
        have mB_ := Aside0.mk (blk_below BKB.out hb)
        have mV_ := Aside0.mk (blk_below BKV.out hb)
        have mR_ := Aside0.mk (blk_below BKR.out hb)
        have n0_ := Aside0.mk (below_step HB.out hb)
        clear HB BKA BKB BKV BKR
        have BKA := mA_
        have BKB := mB_
        have BKV := mV_
        have BKR := mR_
        have HB := n0_
        clear n0_ hb mA_ mB_ mV_ mR_
        refine hK.out _ _ (BKA.out) (fun hHeld => ?_)
        clear hK K
        refine norm_ (a' := ?_) ?_ ?_
        rotate_left
        · show Act.put _ (some 36) _ = _
          simp only [Act.put, List.setIfInBounds_toArray, List.set_cons_zero, List.set_cons_succ, i64_w, i32_w]
          rfl
        exact hY1 (none, 0, none, 0, none, 0, none, 0, gR) _ ⟨BKA, BKB, BKV, BKR, GER, NEAR, NEBR, NEVR, HB⟩
    intro s_ w2 hF_
    obtain ⟨vv1, vv2, vv3, vv4, gR⟩ := s_
    obtain ⟨BKA, BKB, BKV, BKR, GER, NEAR, NEBR, NEVR, HB⟩ := hF_
    refine norm_ (a' := ?_) ?_ ?_
    rotate_left
    · simp only [putAll, Act.put, List.setIfInBounds_toArray, List.set_cons_zero, List.set_cons_succ]
      rfl
    obtain ⟨zR0, zR1, zR2, zR3, zR4, zRf0, zRf1, zRf2, zRf3, zRf4⟩ := five BKR.out
    obtain ⟨w3, hw_⟩ : ∃ w3, w3 = (((((w2).setCell ⟨gR, 0, none⟩ (.int .i64 p0)).setCell ⟨gR, 1, none⟩ (.int .i64 p1)).setCell ⟨gR, 2, none⟩ (.string p2)).setCell ⟨gR, 3, none⟩ (.bool p3)).setCell ⟨gR, 4, none⟩ (.int .i64 p4) := ⟨_, rfl⟩
    refine one_ (i := 8) (N := none) #[true, true, true, true, true, true, true, true, true] rfl rfl (one_of HT_.out (by kernel_rfl)) (by decide) (fun K hK => ?_)
    refine skip_ (w1 := w3) (by rfl) rfl ?_ ?_
    · rw [hw_]
      first | (go_simp; done) | (go_simp; rfl)
    have mR_ : Aside0 (w3.heap[gR]? = some (.cells (cs5 p0 p1 p2 p3 p4) 24 (0, 0))) := ⟨by rw [hw_]; exact vput BKR.out _ _ _ _ _⟩
    have mA_ : Aside0 (w3.heap[gA]? = some (.cells (cs5 a0 a1 ta a3 a4) 24 (0, 0))) := ⟨by rw [hw_]; exact vfar BKA.out NEAR _ _ _ _ _⟩
    have mB_ : Aside0 (w3.heap[gB]? = some (.cells (cs5 b0 b1 tb b3 b4) 24 (0, 0))) := ⟨by rw [hw_]; exact vfar BKB.out NEBR _ _ _ _ _⟩
    have mV_ : Aside0 (w3.heap[gV]? = some (.cells (cs5 u0 u1 u2 u3 u4) 24 (0, 0))) := ⟨by rw [hw_]; exact vfar BKV.out NEVR _ _ _ _ _⟩
    have n0_ : Aside0 (Below w.heap.size w w3) := ⟨by rw [hw_]; exact vbel HB.out GER.out _ _ _ _ _⟩
    clear zR0 zRf0 zR1 zRf1 zR2 zRf2 zR3 zRf3 zR4 zRf4
    clear HB hw_ BKR BKA BKB BKV
    have HB := n0_
    have BKR := mR_
    have BKA := mA_
    have BKB := mB_
    have BKV := mV_
    clear n0_ mR_ mA_ mB_ mV_
    refine hK.out _ _ (BKA.out) (fun hHeld => ?_)
    clear hK K
    refine done_ (done_of HT_.out (by kernel_rfl)) ?_
    obtain ⟨hu, hv⟩ := HUV.out
    clear HUV
    cases c with
    | true =>
      rw [if_pos rfl] at hu hv
      have hu' : (a0, a1, ta, a3, a4) = (u0, u1, u2, u3, u4) := hu
      have hv' : (a0, a1, ta, a3, a4) = (p0, p1, p2, p3, p4) := hv
      simp only [Prod.mk.injEq] at hu' hv'
      obtain ⟨rfl, rfl, rfl, rfl, rfl⟩ := hu'
      obtain ⟨rfl, rfl, rfl, rfl, rfl⟩ := hv'
      clear hu hv
      obtain ⟨zA0, zA1, zA2, zA3, zA4, zAf0, zAf1, zAf2, zAf3, zAf4⟩ := five BKA.out
      obtain ⟨zB0, zB1, zB2, zB3, zB4, zBf0, zBf1, zBf2, zBf3, zBf4⟩ := five BKB.out
      obtain ⟨zV0, zV1, zV2, zV3, zV4, zVf0, zVf1, zVf2, zVf3, zVf4⟩ := five BKV.out
      obtain ⟨zR0, zR1, zR2, zR3, zR4, zRf0, zRf1, zRf2, zRf3, zRf4⟩ := five BKR.out
      go_wp2_with (first
    | ((with_reducible refine gate_callee (f := 14) rfl ?_); (try (refine gate_guard (by rfl) ?_; dsimp only)); refine goesL_ (some 47) rfl rfl Tryz.func14 (by kernel_rfl) rfl #[.agg #[.int .i64 a0, .int .i64 a1, .string ta, .bool a3, .int .i64 a4], .agg #[.int .i64 a0, .int .i64 a1, .string ta, .bool a3, .int .i64 a4]] rfl (by (try simp only [List.map_toArray, List.map_cons, List.map_nil]); first | done | rfl) ?_; (refine (counterpaneref1_Eq.calls a0 a1 ta a3 a4 a0 a1 ta a3 a4 true _ (eq_self a0 a1 ta a3 a4)).mono ?_); rintro e_ v1 ⟨rfl, hb⟩; refine ⟨_, rfl, ?_⟩; have mA_ := Aside0.mk (blk_below (by (with_reducible repeat (first | refine blk_drewN ?_ _ | refine blk_drew ?_ | refine blk_alloc ?_ _)); exact BKA.out) hb); have mB_ := Aside0.mk (blk_below (by (with_reducible repeat (first | refine blk_drewN ?_ _ | refine blk_drew ?_ | refine blk_alloc ?_ _)); exact BKB.out) hb); have mV_ := Aside0.mk (blk_below (by (with_reducible repeat (first | refine blk_drewN ?_ _ | refine blk_drew ?_ | refine blk_alloc ?_ _)); exact BKV.out) hb); have mR_ := Aside0.mk (blk_below (by (with_reducible repeat (first | refine blk_drewN ?_ _ | refine blk_drew ?_ | refine blk_alloc ?_ _)); exact BKR.out) hb); have n0_ := Aside0.mk (below_step (by repeat (first | (with_reducible first | exact HB.out | apply bA | apply below_drew | apply bN | apply bD | refine below_set ?_ GEA.out | refine below_set ?_ GEB.out | refine below_set ?_ GEV.out | refine below_set ?_ GER.out) | exact HB.out)) hb); clear HB BKA BKB BKV BKR; have HB := n0_; have BKA := mA_; have BKB := mB_; have BKV := mV_; have BKR := mR_; clear n0_ mA_ mB_ mV_ mR_ hb; clear zA0 zAf0 zA1 zAf1 zA2 zAf2 zA3 zAf3 zA4 zAf4; clear zB0 zBf0 zB1 zBf1 zB2 zBf2 zB3 zBf3 zB4 zBf4; clear zV0 zVf0 zV1 zVf1 zV2 zVf2 zV3 zVf3 zV4 zVf4; clear zR0 zRf0 zR1 zRf1 zR2 zRf2 zR3 zRf3 zR4 zRf4; obtain ⟨zA0, zA1, zA2, zA3, zA4, zAf0, zAf1, zAf2, zAf3, zAf4⟩ := five BKA.out; obtain ⟨zB0, zB1, zB2, zB3, zB4, zBf0, zBf1, zBf2, zBf3, zBf4⟩ := five BKB.out; obtain ⟨zV0, zV1, zV2, zV3, zV4, zVf0, zVf1, zVf2, zVf3, zVf4⟩ := five BKV.out; obtain ⟨zR0, zR1, zR2, zR3, zR4, zRf0, zRf1, zRf2, zRf3, zRf4⟩ := five BKR.out)
    | ((with_reducible refine gate_callee (f := 14) rfl ?_); (try (refine gate_guard (by rfl) ?_; dsimp only)); refine goesL_ (some 52) rfl rfl Tryz.func14 (by kernel_rfl) rfl #[.agg #[.int .i64 a0, .int .i64 a1, .string ta, .bool a3, .int .i64 a4], .agg #[.int .i64 a0, .int .i64 a1, .string ta, .bool a3, .int .i64 a4]] rfl (by (try simp only [List.map_toArray, List.map_cons, List.map_nil]); first | done | rfl) ?_; (refine (counterpaneref1_Eq.calls a0 a1 ta a3 a4 a0 a1 ta a3 a4 true _ (eq_self a0 a1 ta a3 a4)).mono ?_); rintro e_ v2 ⟨rfl, hb⟩; refine ⟨_, rfl, ?_⟩; have mA_ := Aside0.mk (blk_below (by (with_reducible repeat (first | refine blk_drewN ?_ _ | refine blk_drew ?_ | refine blk_alloc ?_ _)); exact BKA.out) hb); have mB_ := Aside0.mk (blk_below (by (with_reducible repeat (first | refine blk_drewN ?_ _ | refine blk_drew ?_ | refine blk_alloc ?_ _)); exact BKB.out) hb); have mV_ := Aside0.mk (blk_below (by (with_reducible repeat (first | refine blk_drewN ?_ _ | refine blk_drew ?_ | refine blk_alloc ?_ _)); exact BKV.out) hb); have mR_ := Aside0.mk (blk_below (by (with_reducible repeat (first | refine blk_drewN ?_ _ | refine blk_drew ?_ | refine blk_alloc ?_ _)); exact BKR.out) hb); have n0_ := Aside0.mk (below_step (by repeat (first | (with_reducible first | exact HB.out | apply bA | apply below_drew | apply bN | apply bD | refine below_set ?_ GEA.out | refine below_set ?_ GEB.out | refine below_set ?_ GEV.out | refine below_set ?_ GER.out) | exact HB.out)) hb); clear HB BKA BKB BKV BKR; have HB := n0_; have BKA := mA_; have BKB := mB_; have BKV := mV_; have BKR := mR_; clear n0_ mA_ mB_ mV_ mR_ hb; clear zA0 zAf0 zA1 zAf1 zA2 zAf2 zA3 zAf3 zA4 zAf4; clear zB0 zBf0 zB1 zBf1 zB2 zBf2 zB3 zBf3 zB4 zBf4; clear zV0 zVf0 zV1 zVf1 zV2 zVf2 zV3 zVf3 zV4 zVf4; clear zR0 zRf0 zR1 zRf1 zR2 zRf2 zR3 zRf3 zR4 zRf4; obtain ⟨zA0, zA1, zA2, zA3, zA4, zAf0, zAf1, zAf2, zAf3, zAf4⟩ := five BKA.out; obtain ⟨zB0, zB1, zB2, zB3, zB4, zBf0, zBf1, zBf2, zBf3, zBf4⟩ := five BKB.out; obtain ⟨zV0, zV1, zV2, zV3, zV4, zVf0, zVf1, zVf2, zVf3, zVf4⟩ := five BKV.out; obtain ⟨zR0, zR1, zR2, zR3, zR4, zRf0, zRf1, zRf2, zRf3, zRf4⟩ := five BKR.out))
      go_ret
      exact ⟨by first | rfl | (simp; done) | (simp [*]; done), (by repeat (first | (with_reducible first | exact HB.out | apply bA | apply below_drew | apply bN | apply bD | refine below_set ?_ GEA.out | refine below_set ?_ GEB.out | refine below_set ?_ GEV.out | refine below_set ?_ GER.out) | exact HB.out))⟩
    | false =>
      rw [if_neg (by simp)] at hu hv
      have hu' : (b0, b1, tb, b3, b4) = (u0, u1, u2, u3, u4) := hu
      simp only [Prod.mk.injEq] at hu' hv
      obtain ⟨rfl, rfl, rfl, rfl, rfl⟩ := hu'
      obtain ⟨rfl, rfl, rfl, rfl, rfl⟩ := hv
      clear hu
      go_upto_region 11 with (fail)
      (try simp only [Act.put, List.setIfInBounds_toArray, List.set_cons_zero, List.set_cons_succ])
      refine start_ (n := 12) (S := fun w' => w'.heap[gB]? = some (.cells (cs5 b0 b1 tb b3 b4) 24 (0, 0)) ∧ w'.heap[gV]? = some (.cells (cs5 b0 b1 tb b3 b4) 24 (0, 0)) ∧ w'.heap[gR]? = some (.cells (cs5 3 0 (⟨#[]⟩ : ByteArray) false 0) 24 (0, 0))) (ds := []) #[false, false, false, false, false, false, false, false, false, false, false, false] (by kernel_rfl) rfl rfl (⟨BKB.out, BKV.out, BKR.out⟩) (fun hHeld => ?_)
      refine with_tabW i11_tab i11_bits (fun HT_ HW_ => ?_)
      have mB_ := Aside0.mk (blk_drew BKB.out)
      have mV_ := Aside0.mk (blk_drew BKV.out)
      have mR_ := Aside0.mk (blk_drew BKR.out)
      have n0_ := Aside0.mk (below_drew1 HB.out)
      clear HB BKB BKV BKR
      have BKB := mB_
      have BKV := mV_
      have BKR := mR_
      have HB := n0_
      clear n0_ mB_ mV_ mR_
      generalize World.drew _ = wD at BKB BKV BKR HB hHeld ⊢
      refine pure_ (i := 0) (N := some 54) (v := ?_) (a' := ?_) #[true, false, false, false, false, false, false, false, false, false, false, false] rfl rfl (any_of HT_.out (by kernel_rfl)) (fun _ _ _ h => h) (Or.inl ⟨by rfl, ?_⟩) ?_ ?_
      rotate_left
      · intro w'
        go_simp
        with_reducible rfl
      rotate_left
      · simp only [Act.put, List.setIfInBounds_toArray, List.set_cons_zero, List.set_cons_succ, i64_w, i32_w]
        rfl
      refine pure_ (i := 1) (N := some 55) (v := ?_) (a' := ?_) #[true, true, false, false, false, false, false, false, false, false, false, false] rfl rfl (any_of HT_.out (by kernel_rfl)) (fun _ _ _ h => h) (Or.inl ⟨by rfl, ?_⟩) ?_ ?_
      rotate_left
      · intro w'
        go_simp
        with_reducible rfl
      rotate_left
      · simp only [Act.put, List.setIfInBounds_toArray, List.set_cons_zero, List.set_cons_succ, i64_w, i32_w]
        rfl
      refine take_ (i := 2) (N := some 56) (v := ?_) (a' := ?_) #[true, true, true, false, false, false, false, false, false, false, false, false] rfl rfl (take_ofW HT_.out HW_.out (by kernel_rfl)) (fun _ _ _ h => h) (Or.inl ⟨by rfl, ?_⟩) hHeld ?_ ?_
      rotate_left
      · intro w' sA
        obtain ⟨sB1_, sV1_, sR1_⟩ := sA
        have sB0 : w'.cell? ⟨gB, 0, none⟩ = some (.int .i64 b0) := (blk_cell sB1_ 0).trans rfl
        have sB1 : w'.cell? ⟨gB, 1, none⟩ = some (.int .i64 b1) := (blk_cell sB1_ 1).trans rfl
        have sB2 : w'.cell? ⟨gB, 2, none⟩ = some (.string tb) := (blk_cell sB1_ 2).trans rfl
        have sB3 : w'.cell? ⟨gB, 3, none⟩ = some (.bool b3) := (blk_cell sB1_ 3).trans rfl
        have sB4 : w'.cell? ⟨gB, 4, none⟩ = some (.int .i64 b4) := (blk_cell sB1_ 4).trans rfl
        have sV0 : w'.cell? ⟨gV, 0, none⟩ = some (.int .i64 b0) := (blk_cell sV1_ 0).trans rfl
        have sV1 : w'.cell? ⟨gV, 1, none⟩ = some (.int .i64 b1) := (blk_cell sV1_ 1).trans rfl
        have sV2 : w'.cell? ⟨gV, 2, none⟩ = some (.string tb) := (blk_cell sV1_ 2).trans rfl
        have sV3 : w'.cell? ⟨gV, 3, none⟩ = some (.bool b3) := (blk_cell sV1_ 3).trans rfl
        have sV4 : w'.cell? ⟨gV, 4, none⟩ = some (.int .i64 b4) := (blk_cell sV1_ 4).trans rfl
        have sR0 : w'.cell? ⟨gR, 0, none⟩ = some (.int .i64 3) := (blk_cell sR1_ 0).trans rfl
        have sR1 : w'.cell? ⟨gR, 1, none⟩ = some (.int .i64 0) := (blk_cell sR1_ 1).trans rfl
        have sR2 : w'.cell? ⟨gR, 2, none⟩ = some (.string (⟨#[]⟩ : ByteArray)) := (blk_cell sR1_ 2).trans rfl
        have sR3 : w'.cell? ⟨gR, 3, none⟩ = some (.bool false) := (blk_cell sR1_ 3).trans rfl
        have sR4 : w'.cell? ⟨gR, 4, none⟩ = some (.int .i64 0) := (blk_cell sR1_ 4).trans rfl
        clear sB1_ sV1_ sR1_
        go_simp
        with_reducible rfl
      rotate_left
      · simp only [Act.put, List.setIfInBounds_toArray, List.set_cons_zero, List.set_cons_succ, i64_w, i32_w]
        rfl
      refine take_ (i := 3) (N := some 57) (v := ?_) (a' := ?_) #[true, true, true, true, false, false, false, false, false, false, false, false] rfl rfl (take_ofW HT_.out HW_.out (by kernel_rfl)) (fun _ _ _ h => h) (Or.inl ⟨by rfl, ?_⟩) hHeld ?_ ?_
      rotate_left
      · intro w' sA
        obtain ⟨sB1_, sV1_, sR1_⟩ := sA
        have sB0 : w'.cell? ⟨gB, 0, none⟩ = some (.int .i64 b0) := (blk_cell sB1_ 0).trans rfl
        have sB1 : w'.cell? ⟨gB, 1, none⟩ = some (.int .i64 b1) := (blk_cell sB1_ 1).trans rfl
        have sB2 : w'.cell? ⟨gB, 2, none⟩ = some (.string tb) := (blk_cell sB1_ 2).trans rfl
        have sB3 : w'.cell? ⟨gB, 3, none⟩ = some (.bool b3) := (blk_cell sB1_ 3).trans rfl
        have sB4 : w'.cell? ⟨gB, 4, none⟩ = some (.int .i64 b4) := (blk_cell sB1_ 4).trans rfl
        have sV0 : w'.cell? ⟨gV, 0, none⟩ = some (.int .i64 b0) := (blk_cell sV1_ 0).trans rfl
        have sV1 : w'.cell? ⟨gV, 1, none⟩ = some (.int .i64 b1) := (blk_cell sV1_ 1).trans rfl
        have sV2 : w'.cell? ⟨gV, 2, none⟩ = some (.string tb) := (blk_cell sV1_ 2).trans rfl
        have sV3 : w'.cell? ⟨gV, 3, none⟩ = some (.bool b3) := (blk_cell sV1_ 3).trans rfl
        have sV4 : w'.cell? ⟨gV, 4, none⟩ = some (.int .i64 b4) := (blk_cell sV1_ 4).trans rfl
        have sR0 : w'.cell? ⟨gR, 0, none⟩ = some (.int .i64 3) := (blk_cell sR1_ 0).trans rfl
        have sR1 : w'.cell? ⟨gR, 1, none⟩ = some (.int .i64 0) := (blk_cell sR1_ 1).trans rfl
        have sR2 : w'.cell? ⟨gR, 2, none⟩ = some (.string (⟨#[]⟩ : ByteArray)) := (blk_cell sR1_ 2).trans rfl
        have sR3 : w'.cell? ⟨gR, 3, none⟩ = some (.bool false) := (blk_cell sR1_ 3).trans rfl
        have sR4 : w'.cell? ⟨gR, 4, none⟩ = some (.int .i64 0) := (blk_cell sR1_ 4).trans rfl
        clear sB1_ sV1_ sR1_
        go_simp
        with_reducible rfl
      rotate_left
      · simp only [Act.put, List.setIfInBounds_toArray, List.set_cons_zero, List.set_cons_succ, i64_w, i32_w]
        rfl
      refine one_ (i := 4) (N := some 58) #[true, true, true, true, true, false, false, false, false, false, false, false] rfl rfl (one_of HT_.out (by kernel_rfl)) (by decide) (fun K hK => ?_)
      refine goes_ Tryz.func14 (by kernel_rfl) rfl #[.agg #[.int .i64 b0, .int .i64 b1, .string tb, .bool b3, .int .i64 b4], .agg #[.int .i64 b0, .int .i64 b1, .string tb, .bool b3, .int .i64 b4]] (by rfl) rfl rfl (by (try simp only [List.map_toArray, List.map_cons, List.map_nil]); first | done | rfl) ?_
      refine (counterpaneref1_Eq.calls b0 b1 tb b3 b4 b0 b1 tb b3 b4 true _ (eq_self b0 b1 tb b3 b4)).mono ?_
      rintro e_ w1 ⟨rfl, hb⟩
      refine ⟨_, rfl, ?_⟩
      have mB_ := Aside0.mk (blk_below BKB.out hb)
      have mV_ := Aside0.mk (blk_below BKV.out hb)
      have mR_ := Aside0.mk (blk_below BKR.out hb)
      have n0_ := Aside0.mk (below_step HB.out hb)
      clear HB BKB BKV BKR
      have BKB := mB_
      have BKV := mV_
      have BKR := mR_
      have HB := n0_
      clear n0_ hb mB_ mV_ mR_
      refine hK.out _ _ (⟨BKB.out, BKV.out, BKR.out⟩) (fun hHeld => ?_)
      clear hK K
      refine norm_ (a' := ?_) ?_ ?_
      rotate_left
      · show Act.put _ (some 58) _ = _
        simp only [Act.put, List.setIfInBounds_toArray, List.set_cons_zero, List.set_cons_succ, i64_w, i32_w]
        rfl
      refine pure_ (i := 5) (N := some 59) (v := ?_) (a' := ?_) #[true, true, true, true, true, true, false, false, false, false, false, false] rfl rfl (any_of HT_.out (by kernel_rfl)) (fun _ _ _ h => h) (Or.inl ⟨by rfl, ?_⟩) ?_ ?_
      rotate_left
      · intro w'
        go_simp
        with_reducible rfl
      rotate_left
      · simp only [Act.put, List.setIfInBounds_toArray, List.set_cons_zero, List.set_cons_succ, i64_w, i32_w]
        rfl
      refine pure_ (i := 6) (N := some 60) (v := ?_) (a' := ?_) #[true, true, true, true, true, true, true, false, false, false, false, false] rfl rfl (any_of HT_.out (by kernel_rfl)) (fun _ _ _ h => h) (Or.inl ⟨by rfl, ?_⟩) ?_ ?_
      rotate_left
      · intro w'
        go_simp
        with_reducible rfl
      rotate_left
      · simp only [Act.put, List.setIfInBounds_toArray, List.set_cons_zero, List.set_cons_succ, i64_w, i32_w]
        rfl
      refine take_ (i := 7) (N := some 61) (v := ?_) (a' := ?_) #[true, true, true, true, true, true, true, true, false, false, false, false] rfl rfl (take_ofW HT_.out HW_.out (by kernel_rfl)) (fun _ _ _ h => h) (Or.inl ⟨by rfl, ?_⟩) hHeld ?_ ?_
      rotate_left
      · intro w' sA
        obtain ⟨sB1_, sV1_, sR1_⟩ := sA
        have sB0 : w'.cell? ⟨gB, 0, none⟩ = some (.int .i64 b0) := (blk_cell sB1_ 0).trans rfl
        have sB1 : w'.cell? ⟨gB, 1, none⟩ = some (.int .i64 b1) := (blk_cell sB1_ 1).trans rfl
        have sB2 : w'.cell? ⟨gB, 2, none⟩ = some (.string tb) := (blk_cell sB1_ 2).trans rfl
        have sB3 : w'.cell? ⟨gB, 3, none⟩ = some (.bool b3) := (blk_cell sB1_ 3).trans rfl
        have sB4 : w'.cell? ⟨gB, 4, none⟩ = some (.int .i64 b4) := (blk_cell sB1_ 4).trans rfl
        have sV0 : w'.cell? ⟨gV, 0, none⟩ = some (.int .i64 b0) := (blk_cell sV1_ 0).trans rfl
        have sV1 : w'.cell? ⟨gV, 1, none⟩ = some (.int .i64 b1) := (blk_cell sV1_ 1).trans rfl
        have sV2 : w'.cell? ⟨gV, 2, none⟩ = some (.string tb) := (blk_cell sV1_ 2).trans rfl
        have sV3 : w'.cell? ⟨gV, 3, none⟩ = some (.bool b3) := (blk_cell sV1_ 3).trans rfl
        have sV4 : w'.cell? ⟨gV, 4, none⟩ = some (.int .i64 b4) := (blk_cell sV1_ 4).trans rfl
        have sR0 : w'.cell? ⟨gR, 0, none⟩ = some (.int .i64 3) := (blk_cell sR1_ 0).trans rfl
        have sR1 : w'.cell? ⟨gR, 1, none⟩ = some (.int .i64 0) := (blk_cell sR1_ 1).trans rfl
        have sR2 : w'.cell? ⟨gR, 2, none⟩ = some (.string (⟨#[]⟩ : ByteArray)) := (blk_cell sR1_ 2).trans rfl
        have sR3 : w'.cell? ⟨gR, 3, none⟩ = some (.bool false) := (blk_cell sR1_ 3).trans rfl
        have sR4 : w'.cell? ⟨gR, 4, none⟩ = some (.int .i64 0) := (blk_cell sR1_ 4).trans rfl
        clear sB1_ sV1_ sR1_
        go_simp
        with_reducible rfl
      rotate_left
      · simp only [Act.put, List.setIfInBounds_toArray, List.set_cons_zero, List.set_cons_succ, i64_w, i32_w]
        rfl
      refine one_ (i := 8) (N := some 62) #[true, true, true, true, true, true, true, true, true, false, false, false] rfl rfl (one_of HT_.out (by kernel_rfl)) (by decide) (fun K hK => ?_)
      refine goes_ Tryz.func30 (by kernel_rfl) rfl #[.bool false] (by rfl) rfl rfl (by (try simp only [List.map_toArray, List.map_cons, List.map_nil]); first | done | rfl) ?_
      refine (counterpaneref1_Boo.calls false 3 0 (⟨#[]⟩ : ByteArray) false 0 _ rfl).mono ?_
      rintro e_ w1 ⟨rfl, hb⟩
      refine ⟨_, rfl, ?_⟩
      have mB_ := Aside0.mk (blk_below BKB.out hb)
      have mV_ := Aside0.mk (blk_below BKV.out hb)
      have mR_ := Aside0.mk (blk_below BKR.out hb)
      have n0_ := Aside0.mk (below_step HB.out hb)
      clear HB BKB BKV BKR
      have BKB := mB_
      have BKV := mV_
      have BKR := mR_
      have HB := n0_
      clear n0_ hb mB_ mV_ mR_
      refine hK.out _ _ (⟨BKB.out, BKV.out, BKR.out⟩) (fun hHeld => ?_)
      clear hK K
      refine norm_ (a' := ?_) ?_ ?_
      rotate_left
      · show Act.put _ (some 62) _ = _
        simp only [Act.put, List.setIfInBounds_toArray, List.set_cons_zero, List.set_cons_succ, i64_w, i32_w]
        rfl
      refine one_ (i := 9) (N := some 63) #[true, true, true, true, true, true, true, true, true, true, false, false] rfl rfl (one_of HT_.out (by kernel_rfl)) (by decide) (fun K hK => ?_)
      refine goes_ Tryz.func14 (by kernel_rfl) rfl #[.agg #[.int .i64 3, .int .i64 0, .string (⟨#[]⟩ : ByteArray), .bool false, .int .i64 0], .agg #[.int .i64 3, .int .i64 0, .string (⟨#[]⟩ : ByteArray), .bool false, .int .i64 0]] (by rfl) rfl rfl (by (try simp only [List.map_toArray, List.map_cons, List.map_nil]); first | done | rfl) ?_
      refine (counterpaneref1_Eq.calls 3 0 (⟨#[]⟩ : ByteArray) false 0 3 0 (⟨#[]⟩ : ByteArray) false 0 true _ (eq_self 3 0 (⟨#[]⟩ : ByteArray) false 0)).mono ?_
      rintro e_ w1 ⟨rfl, hb⟩
      refine ⟨_, rfl, ?_⟩
      have mB_ := Aside0.mk (blk_below BKB.out hb)
      have mV_ := Aside0.mk (blk_below BKV.out hb)
      have mR_ := Aside0.mk (blk_below BKR.out hb)
      have n0_ := Aside0.mk (below_step HB.out hb)
      clear HB BKB BKV BKR
      have BKB := mB_
      have BKV := mV_
      have BKR := mR_
      have HB := n0_
      clear n0_ hb mB_ mV_ mR_
      refine hK.out _ _ (⟨BKB.out, BKV.out, BKR.out⟩) (fun hHeld => ?_)
      clear hK K
      refine norm_ (a' := ?_) ?_ ?_
      rotate_left
      · show Act.put _ (some 63) _ = _
        simp only [Act.put, List.setIfInBounds_toArray, List.set_cons_zero, List.set_cons_succ, i64_w, i32_w]
        rfl
      refine pure_ (i := 10) (N := some 64) (v := ?_) (a' := ?_) #[true, true, true, true, true, true, true, true, true, true, true, false] rfl rfl (any_of HT_.out (by kernel_rfl)) (fun _ _ _ h => h) (Or.inl ⟨by rfl, ?_⟩) ?_ ?_
      rotate_left
      · intro w'
        go_simp
        with_reducible rfl
      rotate_left
      · simp only [Act.put, List.setIfInBounds_toArray, List.set_cons_zero, List.set_cons_succ, i64_w, i32_w]
        rfl
      refine pure_ (i := 11) (N := some 6) (v := ?_) (a' := ?_) #[true, true, true, true, true, true, true, true, true, true, true, true] rfl rfl (any_of HT_.out (by kernel_rfl)) (fun _ _ _ h => h) (Or.inl ⟨by rfl, ?_⟩) ?_ ?_
      rotate_left
      · intro w'
        go_simp
        with_reducible rfl
      rotate_left
      · simp only [Act.put, List.setIfInBounds_toArray, List.set_cons_zero, List.set_cons_succ, i64_w, i32_w]
        rfl
      refine done_ (done_of HT_.out (by kernel_rfl)) ?_
      go_wp2
      go_ret
      exact ⟨by first | rfl | (simp; done) | (simp [*]; done), (by repeat (first | (with_reducible first | exact HB.out | apply bA | apply below_drew | apply bN | apply bD | refine below_set ?_ GEA.out | refine below_set ?_ GEB.out | refine below_set ?_ GEV.out | refine below_set ?_ GER.out) | exact HB.out))⟩
theorem builtinIf_walk (w : World) (hL : Aside0 (Lq w)) (c : Bool) (a0 a1 : Int) (sa : ByteArray) (a3 : Bool) (a4 b0 b1 : Int) (sb : ByteArray) (b3 : Bool) (b4 : Int) (ha : (Lit.int .i64 a1).wf = true) (hb0 : (Lit.int .i64 b1).wf = true) :
    Calls Tryz.prog 6 #[.bool c, .agg #[.int .i64 a0, .int .i64 a1, .string sa, .bool a3, .int .i64 a4], .agg #[.int .i64 b0, .int .i64 b1, .string sb, .bool b3, .int .i64 b4]] w fun e w' => e = .returned (.bool true) ∧ Below w.heap.size w w' := builtinIf_in c a0 a1 sa a3 a4 b0 b1 sb b3 b4 (nat_wf2 ha) (nat_wf2 hb0) w hL
end Go.Proofs.YtfnbflhoaemmeaaGreatDoor.EBui
end
