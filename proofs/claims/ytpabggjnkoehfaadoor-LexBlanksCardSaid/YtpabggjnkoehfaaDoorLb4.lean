/- Part 4 of what the claim's proof stands on: contracts of the program's functions, by walks, and plain laws. -/
import Derived.Test.YtpabggjnkoehfaaDoorLb3
import Derived.Lib.IndexLaws
section
namespace Go.Proofs.YtpabggjnkoehfaaDoor.ELex
open Go.RowKit Go.Proofs.YtpabggjnkoehfaaDoor.ExtL Go.Proofs.YtpabggjnkoehfaaDoorW.PrintWords Go.Proofs.YtpabggjnkoehfaaDoorW.PrintLast Go.Proofs.YtpabggjnkoehfaaDoorW.PrintMore
attribute [local go_sem] max2_int min2_int max_two min_two max_three min_three max_four min_four   
set_option linter.unusedVariables false
set_option linter.unusedSimpArgs false
def lex_Scan.l0 : Nat → ByteArray → List (S43) → Int → Option ((List (S43)) × Int × Bool)
  | 0, _, _, _ => none
  | k + 1, x0, x5, x6 => if x6 < (x0.size : Int) then (if 0 ≤ x6 then (if (bt x0 x6) = 32 then (lex_Scan.l0 k x0 x5 (wrap64 (x6 + 1))) else (if x6 ≤ (x0.size : Int) then ((lex_next.f k (x0.extract (x6 : Int).toNat x0.size)).bind fun bt119 => (if bt119.2.2 = 0 then (some (([] : List (S43)), x6, false)) else (if x5.length < 4398046511104 then (lex_Scan.l0 k x0 (x5 ++ [(⟨bt119.1, bt119.2.1, x6⟩ : S43)]) (wrap64 (x6 + bt119.2.2))) else (none)))) else (none))) else (none)) else (if x5.length < 4398046511104 then (some ((x5 ++ [(⟨7, (⟨#[]⟩ : ByteArray), (x0.size : Int)⟩ : S43)]), 0, true)) else (none))
def lex_Scan.f (k : Nat) (a0 : ByteArray) : Option ((List (S43)) × Int × Bool) := if (a0.size : Int) > 1000 then (some (([] : List (S43)), 0, false)) else (lex_Scan.l0 k a0 ([] : List (S43)) 0)
set_option maxHeartbeats 8000000 in
set_option maxRecDepth 100000 in
theorem lex_Scan.calls (k : Nat) (a0 : ByteArray) (r1 : List (S43)) (r2 : Int) (r3 : Bool) (w : World) (hL : Aside0 (Lq w)) (h : lex_Scan.f k a0 = some (r1, r2, r3)) :
    Calls Tryd.prog 24 #[.string a0] w fun e w' => ∃ v0_ : Value, e = .returned (.tuple #[v0_, .int .i64 r2, .bool r3]) ∧ Kd.R k43 43 w' w.heap.size (fun _ => True) v0_ r1 ∧ Below w.heap.size w w' := by
  have hu43 := Tryd.underlying43
  have HB := Aside0.mk (Below.refl w.heap.size w)
  have H : (if (a0.size : Int) > 1000 then (some (([] : List (S43)), 0, false)) else (lex_Scan.l0 k a0 ([] : List (S43)) 0)) = some (r1, r2, r3) := h
  clear h
  by_cases c2 : (a0.size : Int) > 1000
  · rw [if_pos c2] at H
    have c2b0 : decide (1000 < (a0.size : Int)) = true := decide_eq_true c2
    have c2b1 : decide (1000 < a0.size) = true := decide_eq_true (by omega)
    clear c2
    simp only [Option.some.injEq, Prod.mk.injEq] at H
    obtain ⟨rfl, rfl, rfl⟩ := H
    go_enter Tryd.func24, Tryd.ntmps24
    go_wp2
    go_ret3
    exact ⟨_, by first | rfl | (simp [errW_none, errW_some] <;> rfl) | (simp [*, errW_none, errW_some] <;> rfl) | (simp [*, errW_none, errW_some] <;> (generalize ByteArray.toList _ = l_; cases l_ <;> rfl)), by first | exact Kd.R_nil _ _ _ _ _ | exact Kd.N_nil _ _ _ _ _ | exact Kd.V_nil _ _ _ _ _ | exact Kd.Q_nil _ _ _ _ _ | exact Kd.S_nil _ _ _ _ _, by repeat (first | (with_reducible first | exact HB.out | apply below_alloc | apply pw_below_drewN | apply below_drew1) | exact HB.out)⟩
  · rw [if_neg c2] at H
    have c2b0 : decide (1000 < (a0.size : Int)) = false := decide_eq_false c2
    have c2b1 : decide (1000 < a0.size) = false := decide_eq_false (by omega)
    clear c2
    have H' := Aside0.mk H
    clear H
    go_enter Tryd.func24, Tryd.ntmps24
    go_wp2
    go_loopg [5, 6] k (fun kq v5 v6 w' => ∃ (x5_1 : List (S43)) (x6_1 : Int), v6 = .int .i64 x6_1 ∧ Aside0 (lex_Scan.l0 kq a0 x5_1 x6_1 = some (r1, r2, r3)) ∧ Aside0 (kq ≤ k) ∧ Aside0 (Kd.R k43 43 w' w.heap.size (fun _ => True) v5 x5_1) ∧ Aside0 (Below w.heap.size w w'))
    case atStart => exact ⟨(([] : List (S43))), (0), (by first | rfl | (simp; done) | (simp [*]; done)), H', ⟨Nat.le_refl _⟩, ⟨by first | exact Kd.R_nil _ _ _ _ _ | exact Kd.N_nil _ _ _ _ _ | exact Kd.V_nil _ _ _ _ _ | exact Kd.Q_nil _ _ _ _ _ | exact Kd.S_nil _ _ _ _ _⟩, ⟨by repeat (first | (with_reducible first | exact HB.out | apply below_alloc | apply pw_below_drewN | apply below_drew1) | exact HB.out)⟩⟩
    case round =>
      clear H'
      try clear c2
      try clear c2b0
      try clear c2b1
      try clear p2
      obtain ⟨x5_1, x6_1, rfl, HA, HK1, HO_5, HB⟩ := hrel
      cases gk with
      | zero => exact absurd HA.out (by simp [lex_Scan.l0])
      | succ k1 =>
        have H := HA.out
        clear HA
        simp only [lex_Scan.l0] at H
        by_cases c3 : x6_1 < (a0.size : Int)
        · rw [if_pos c3] at H
          have c3b0 : decide (x6_1 < (a0.size : Int)) = true := decide_eq_true c3
          clear c3
          by_cases c4 : 0 ≤ x6_1
          · rw [if_pos c4] at H
            have c4b0 : decide (0 ≤ x6_1) = true := decide_eq_true c4
            clear c4
            by_cases c6 : (bt a0 x6_1) = 32
            · rw [if_pos c6] at H
              have c6b0 : ((bt a0 x6_1) == 32) = true := beq_iff_eq.mpr c6
              have c6b1 : ((bt a0 x6_1) != 32) = false := bne_eq_false_iff_eq.mpr c6
              clear c6
              have H' := Aside0.mk H
              clear H
              have p5 : 0 ≤ (x6_1 : Int) := of_decide_eq_true (by first | (with_reducible assumption) | assumption)
              have q5 : x6_1 < (a0.size : Int) := of_decide_eq_true (by first | (with_reducible assumption) | assumption)
              have hx5 := bt_at a0 x6_1
              replace p5 := eq_true p5
              replace q5 := eq_true q5
              try (have q5z := q5; simp only [ByteArray.size_extract, Nat.min_self] at q5z)
              go_wp2
              go_roundg k1
              case measure => have := HK1.out; omega
              case rel => exact ⟨(x5_1), (wrap64 (x6_1 + 1)), (by first | rfl | (simp; done) | (simp [*]; done)), H', ⟨by have := HK1.out; omega⟩, ⟨by (with_reducible repeat (first | apply Kd.R_alloc | apply Kd.R_drewN | apply Kd.R_drew)); exact HO_5.out⟩, ⟨by repeat (first | (with_reducible first | exact HB.out | apply below_alloc | apply pw_below_drewN | apply below_drew1) | exact HB.out)⟩⟩
            · rw [if_neg c6] at H
              have c6b0 : ((bt a0 x6_1) == 32) = false := beq_eq_false_iff_ne.mpr c6
              have c6b1 : ((bt a0 x6_1) != 32) = true := bne_iff_ne.mpr c6
              have c7b0 := eq_true (of_decide_eq_true (by first | (with_reducible assumption) | assumption) : 0 ≤ x6_1)
              by_cases c8 : x6_1 ≤ (a0.size : Int)
              · rw [if_pos c8] at H
                have c8b0 := eq_true c8
                have c8b1 : decide (x6_1 ≤ (a0.size : Int)) = true := decide_eq_true c8
                clear c8
                replace H := Option.bind_eq_some_iff.mp H
                obtain ⟨⟨t119, t120, t121⟩, A90, H⟩ := H
                replace H : (if t121 = 0 then (some (([] : List (S43)), x6_1, false)) else (if x5_1.length < 4398046511104 then (lex_Scan.l0 k1 a0 (x5_1 ++ [(⟨t119, t120, x6_1⟩ : S43)]) (wrap64 (x6_1 + t121))) else (none))) = some (r1, r2, r3) := H
                have A9 := Aside0.mk A90
                clear A90
                by_cases c10 : t121 = 0
                · rw [if_pos c10] at H
                  have c10b0 : (t121 == 0) = true := beq_iff_eq.mpr c10
                  have c10b1 : (t121 != 0) = false := bne_eq_false_iff_eq.mpr c10
                  clear c10
                  simp only [Option.some.injEq, Prod.mk.injEq] at H
                  obtain ⟨rfl, rfl, rfl⟩ := H
                  have p5 : 0 ≤ (x6_1 : Int) := of_decide_eq_true (by first | (with_reducible assumption) | assumption)
                  have q5 : x6_1 < (a0.size : Int) := of_decide_eq_true (by first | (with_reducible assumption) | assumption)
                  have hx5 := bt_at a0 x6_1
                  replace p5 := eq_true p5
                  replace q5 := eq_true q5
                  try (have q5z := q5; simp only [ByteArray.size_extract, Nat.min_self] at q5z)
                  go_wp2_with (first | ((with_reducible refine gate_callee (f := 33) rfl ?_); refine goesL_ (some 27) rfl rfl Tryd.func33 (by kernel_rfl) rfl #[.string (a0.extract (x6_1 : Int).toNat a0.size)] rfl (by (try simp only [List.map_toArray, List.map_cons, List.map_nil]); first | done | rfl | (simp only [List.length_drop, List.length_take]; rfl)) ?_; (with_reducible refine (lex_next.calls (hL := ⟨by first | exact hL.out | (refine hL.out.drawn ?_; (repeat (first | exact Drawn0.refl _ | apply Drawn0.step)); done) | (refine hL.out.below ?_; (repeat (first | (with_reducible first | exact HB.out | apply below_alloc | apply pw_below_drewN | apply below_drew1) | exact HB.out)); done)⟩) k1 (a0.extract (x6_1 : Int).toNat a0.size) t119 t120 t121 _ A9.out).mono ?_); rintro e w11 ⟨rfl, hb⟩; refine ⟨_, rfl, ?_⟩; have n0_ := Aside0.mk (Kd.R_below (by (with_reducible repeat (first | apply Kd.R_alloc | apply Kd.R_drewN | apply Kd.R_drew)); exact HO_5.out) hb); have n1_ := Aside0.mk (below_step (by repeat (first | (with_reducible first | exact HB.out | apply below_alloc | apply pw_below_drewN | apply below_drew1) | exact HB.out)) hb); clear HO_5; clear HB; have HO_5 := n0_; have HB := n1_; clear n0_ n1_; (try clear hb); (try clear hb2); (try clear hk); (try clear hi)))
                  go_ret3
                  exact ⟨_, by first | rfl | (simp [errW_none, errW_some] <;> rfl) | (simp [*, errW_none, errW_some] <;> rfl) | (simp [*, errW_none, errW_some] <;> (generalize ByteArray.toList _ = l_; cases l_ <;> rfl)), by first | exact Kd.R_nil _ _ _ _ _ | exact Kd.N_nil _ _ _ _ _ | exact Kd.V_nil _ _ _ _ _ | exact Kd.Q_nil _ _ _ _ _ | exact Kd.S_nil _ _ _ _ _, by repeat (first | (with_reducible first | exact HB.out | apply below_alloc | apply pw_below_drewN | apply below_drew1) | exact HB.out)⟩
                · rw [if_neg c10] at H
                  have c10b0 : (t121 == 0) = false := beq_eq_false_iff_ne.mpr c10
                  have c10b1 : (t121 != 0) = true := bne_iff_ne.mpr c10
                  by_cases c12 : x5_1.length < 4398046511104
                  · rw [if_pos c12] at H
                    have LMc12 := Aside0.mk c12
                    clear c12
                    obtain ⟨y122, hy122⟩ : ∃ y_ : List (S43), y_ = (x5_1 ++ [(⟨t119, t120, x6_1⟩ : S43)]) := ⟨_, rfl⟩
                    replace H : (lex_Scan.l0 k1 a0 y122 (wrap64 (x6_1 + t121))) = some (r1, r2, r3) := by first | (rw [hy122]; with_reducible exact H) | (have H2_ := (Option.bind_some _ _).symm.trans H; rw [hy122]; with_reducible exact H2_) | (have H2_ := (Option.bind_some _ _).symm.trans H; with_reducible exact H2_) | with_reducible exact H | (rw [hy122]; exact H) | exact H
                    have Ny122 := Aside0.mk hy122
                    clear hy122
                    have H' := Aside0.mk H
                    clear H
                    have p5 : 0 ≤ (x6_1 : Int) := of_decide_eq_true (by first | (with_reducible assumption) | assumption)
                    have q5 : x6_1 < (a0.size : Int) := of_decide_eq_true (by first | (with_reducible assumption) | assumption)
                    have hx5 := bt_at a0 x6_1
                    replace p5 := eq_true p5
                    replace q5 := eq_true q5
                    try (have q5z := q5; simp only [ByteArray.size_extract, Nat.min_self] at q5z)
                    go_wp2_with (first | ((with_reducible refine gate_callee (f := 33) rfl ?_); refine goesL_ (some 27) rfl rfl Tryd.func33 (by kernel_rfl) rfl #[.string (a0.extract (x6_1 : Int).toNat a0.size)] rfl (by (try simp only [List.map_toArray, List.map_cons, List.map_nil]); first | done | rfl | (simp only [List.length_drop, List.length_take]; rfl)) ?_; (with_reducible refine (lex_next.calls (hL := ⟨by first | exact hL.out | (refine hL.out.drawn ?_; (repeat (first | exact Drawn0.refl _ | apply Drawn0.step)); done) | (refine hL.out.below ?_; (repeat (first | (with_reducible first | exact HB.out | apply below_alloc | apply pw_below_drewN | apply below_drew1) | exact HB.out)); done)⟩) k1 (a0.extract (x6_1 : Int).toNat a0.size) t119 t120 t121 _ A9.out).mono ?_); rintro e w13 ⟨rfl, hb⟩; refine ⟨_, rfl, ?_⟩; have n0_ := Aside0.mk (Kd.R_below (by (with_reducible repeat (first | apply Kd.R_alloc | apply Kd.R_drewN | apply Kd.R_drew)); exact HO_5.out) hb); have n1_ := Aside0.mk (below_step (by repeat (first | (with_reducible first | exact HB.out | apply below_alloc | apply pw_below_drewN | apply below_drew1) | exact HB.out)) hb); clear HO_5; clear HB; have HO_5 := n0_; have HB := n1_; clear n0_ n1_; (try clear hb); (try clear hb2); (try clear hk); (try clear hi)) | ((with_reducible refine gate_builtin (b := .append) (xs := #[.tmp 34, .tmp 39]) rfl ?_); at_builtin; refine Kd.R_append k43 (w0 := w) w.heap.size rfl (.tmp 34) (.tmp 39) 39 43 (.agg #[(.int .i64 0), (.string ⟨#[]⟩), (.int .i64 0)]) 32 rfl Tryd.underlying39 info43 rfl (by decide) (by omega) u5 x5_1 (⟨t119, t120, x6_1⟩ : S43) [.int .i64 t119, .string t120, .int .i64 x6_1] (fun _ => True) (fun _ => False) rfl rfl ?aP (fun _ hk => hk.elim) ?aF ?aO ?aB ?aS ?aL ?_; (case aP => exact k43_mkM _ _ _ (⟨t119, t120, x6_1⟩ : S43)); (case aB => exact (by repeat (first | (with_reducible first | exact HB.out | apply below_alloc | apply pw_below_drewN | apply below_drew1) | exact HB.out))); (case aF => exact (fun _ _ => trivial)); (case aO => exact (by (with_reducible repeat (first | apply Kd.R_alloc | apply Kd.R_drewN | apply Kd.R_drew)); exact HO_5.out)); (case aS => exact (below_size (by repeat (first | (with_reducible first | exact HB.out | apply below_alloc | apply pw_below_drewN | apply below_drew1) | exact HB.out)))); (case aL => have := LMc12.out; omega); intro v123 w14 ho hb hg hat; rw [← Ny122.out] at ho; have n0_ := Aside0.mk (hb); have n1_ := Aside0.mk (ho); clear HB; clear HO_5; have HB := n0_; have HO124 := n1_; clear n0_ n1_; clear ho hb hg hat))
                    go_roundg k1
                    case measure => have := HK1.out; omega
                    case rel => exact ⟨(y122), (wrap64 (x6_1 + t121)), (by first | rfl | (simp; done) | (simp [*]; done)), H', ⟨by have := HK1.out; omega⟩, ⟨by (with_reducible repeat (first | apply Kd.R_alloc | apply Kd.R_drewN | apply Kd.R_drew)); exact HO124.out⟩, ⟨by repeat (first | (with_reducible first | exact HB.out | apply below_alloc | apply pw_below_drewN | apply below_drew1) | exact HB.out)⟩⟩
                  · rw [if_neg c12] at H
                    exact absurd H (by simp)
              · rw [if_neg c8] at H
                exact absurd H (by simp)
          · rw [if_neg c4] at H
            exact absurd H (by simp)
        · rw [if_neg c3] at H
          have c3b0 : decide (x6_1 < (a0.size : Int)) = false := decide_eq_false c3
          clear c3
          by_cases c15 : x5_1.length < 4398046511104
          · rw [if_pos c15] at H
            have LMc15 := Aside0.mk c15
            clear c15
            obtain ⟨y116, hy116⟩ : ∃ y_ : List (S43), y_ = (x5_1 ++ [(⟨7, (⟨#[]⟩ : ByteArray), (a0.size : Int)⟩ : S43)]) := ⟨_, rfl⟩
            replace H : (some (y116, 0, true)) = some (r1, r2, r3) := by first | (rw [hy116]; with_reducible exact H) | (have H2_ := (Option.bind_some _ _).symm.trans H; rw [hy116]; with_reducible exact H2_) | (have H2_ := (Option.bind_some _ _).symm.trans H; with_reducible exact H2_) | with_reducible exact H | (rw [hy116]; exact H) | exact H
            have Ny116 := Aside0.mk hy116
            clear hy116
            simp only [Option.some.injEq, Prod.mk.injEq] at H
            obtain ⟨rfl, rfl, rfl⟩ := H
            go_wp2_with (first | ((with_reducible refine gate_builtin (b := .append) (xs := #[.tmp 44, .tmp 48]) rfl ?_); at_builtin; refine Kd.R_append k43 (w0 := w) w.heap.size rfl (.tmp 44) (.tmp 48) 39 43 (.agg #[(.int .i64 0), (.string ⟨#[]⟩), (.int .i64 0)]) 32 rfl Tryd.underlying39 info43 rfl (by decide) (by omega) u5 x5_1 (⟨7, (⟨#[]⟩ : ByteArray), (a0.size : Int)⟩ : S43) [.int .i64 7, .string (⟨#[]⟩ : ByteArray), .int .i64 (a0.size : Int)] (fun _ => True) (fun _ => False) rfl rfl ?aP (fun _ hk => hk.elim) ?aF ?aO ?aB ?aS ?aL ?_; (case aP => exact k43_mkM _ _ _ (⟨7, (⟨#[]⟩ : ByteArray), (a0.size : Int)⟩ : S43)); (case aB => exact (by repeat (first | (with_reducible first | exact HB.out | apply below_alloc | apply pw_below_drewN | apply below_drew1) | exact HB.out))); (case aF => exact (fun _ _ => trivial)); (case aO => exact (by (with_reducible repeat (first | apply Kd.R_alloc | apply Kd.R_drewN | apply Kd.R_drew)); exact HO_5.out)); (case aS => exact (below_size (by repeat (first | (with_reducible first | exact HB.out | apply below_alloc | apply pw_below_drewN | apply below_drew1) | exact HB.out)))); (case aL => have := LMc15.out; omega); intro v117 w16 ho hb hg hat; rw [← Ny116.out] at ho; have n0_ := Aside0.mk (hb); have n1_ := Aside0.mk (ho); clear HB; clear HO_5; have HB := n0_; have HO118 := n1_; clear n0_ n1_; clear ho hb hg hat))
            go_ret3
            exact ⟨_, by first | rfl | (simp [errW_none, errW_some] <;> rfl) | (simp [*, errW_none, errW_some] <;> rfl) | (simp [*, errW_none, errW_some] <;> (generalize ByteArray.toList _ = l_; cases l_ <;> rfl)), by (with_reducible repeat (first | apply Kd.R_alloc | apply Kd.R_drewN | apply Kd.R_drew)); exact HO118.out, by repeat (first | (with_reducible first | exact HB.out | apply below_alloc | apply pw_below_drewN | apply below_drew1) | exact HB.out)⟩
          · rw [if_neg c15] at H
            exact absurd H (by simp)
def counterpanelaw6_begun.f (k : Nat)  : Option (Bool) := (lex_Scan.f k (⟨#[83, 85, 77, 40, 65, 49, 58, 36, 66, 50, 41, 32, 38, 32, 34, 97, 34, 34, 98, 34]⟩ : ByteArray)).bind fun bt125 => (if bt125.2.2 = true then (if (bt125.1.length : Int) = 9 then (if 0 < (bt125.1.length : Int) then (if ((rd_T43 bt125.1 0).f0) = 4 then (if 2 < (bt125.1.length : Int) then (if ((rd_T43 bt125.1 2).f0) = 3 then (if 7 < (bt125.1.length : Int) then (if ((rd_T43 bt125.1 7).f0) = 2 then (if ((rd_T43 bt125.1 7).f1).toList = ([97, 34, 98] : List UInt8) then (if 8 < (bt125.1.length : Int) then (some (((rd_T43 bt125.1 8).f0) == 7)) else (none)) else (some false)) else (some false)) else (none)) else (some false)) else (none)) else (some false)) else (none)) else (some false)) else (some false))
set_option maxHeartbeats 8000000 in
set_option maxRecDepth 100000 in
theorem counterpanelaw6_begun.calls (k : Nat)  (r : Bool) (w : World) (hL : Aside0 (Lq w)) (h : counterpanelaw6_begun.f k  = some r) :
    Calls Tryd.prog 23 #[] w fun e w' => e = .returned (.bool r) ∧ Below w.heap.size w w' := by
  have HB := Aside0.mk (Below.refl w.heap.size w)
  have H : ((lex_Scan.f k (⟨#[83, 85, 77, 40, 65, 49, 58, 36, 66, 50, 41, 32, 38, 32, 34, 97, 34, 34, 98, 34]⟩ : ByteArray)).bind fun bt125 => (if bt125.2.2 = true then (if (bt125.1.length : Int) = 9 then (if 0 < (bt125.1.length : Int) then (if ((rd_T43 bt125.1 0).f0) = 4 then (if 2 < (bt125.1.length : Int) then (if ((rd_T43 bt125.1 2).f0) = 3 then (if 7 < (bt125.1.length : Int) then (if ((rd_T43 bt125.1 7).f0) = 2 then (if ((rd_T43 bt125.1 7).f1).toList = ([97, 34, 98] : List UInt8) then (if 8 < (bt125.1.length : Int) then (some (((rd_T43 bt125.1 8).f0) == 7)) else (none)) else (some false)) else (some false)) else (none)) else (some false)) else (none)) else (some false)) else (none)) else (some false)) else (some false))) = some r := h
  clear h
  replace H := Option.bind_eq_some_iff.mp H
  obtain ⟨⟨t125, t126, t127⟩, A10, H⟩ := H
  replace H : (if t127 = true then (if (t125.length : Int) = 9 then (if 0 < (t125.length : Int) then (if ((rd_T43 t125 0).f0) = 4 then (if 2 < (t125.length : Int) then (if ((rd_T43 t125 2).f0) = 3 then (if 7 < (t125.length : Int) then (if ((rd_T43 t125 7).f0) = 2 then (if ((rd_T43 t125 7).f1).toList = ([97, 34, 98] : List UInt8) then (if 8 < (t125.length : Int) then (some (((rd_T43 t125 8).f0) == 7)) else (none)) else (some false)) else (some false)) else (none)) else (some false)) else (none)) else (some false)) else (none)) else (some false)) else (some false)) = some r := H
  have A1 := Aside0.mk A10
  clear A10
  by_cases c2 : t127 = true
  · subst c2
    have H1 : (if (t125.length : Int) = 9 then (if 0 < (t125.length : Int) then (if ((rd_T43 t125 0).f0) = 4 then (if 2 < (t125.length : Int) then (if ((rd_T43 t125 2).f0) = 3 then (if 7 < (t125.length : Int) then (if ((rd_T43 t125 7).f0) = 2 then (if ((rd_T43 t125 7).f1).toList = ([97, 34, 98] : List UInt8) then (if 8 < (t125.length : Int) then (some (((rd_T43 t125 8).f0) == 7)) else (none)) else (some false)) else (some false)) else (none)) else (some false)) else (none)) else (some false)) else (none)) else (some false)) = some r := by rw [if_pos rfl] at H; exact H
    clear H
    have H := H1
    clear H1
    by_cases c3 : (t125.length : Int) = 9
    · rw [if_pos c3] at H
      have c3b0 : ((t125.length : Int) == 9) = true := beq_iff_eq.mpr c3
      have c3b1 : ((t125.length : Int) != 9) = false := bne_eq_false_iff_eq.mpr c3
      clear c3
      by_cases c4 : 0 < (t125.length : Int)
      · rw [if_pos c4] at H
        have c4b0 : decide (0 < (t125.length : Int)) = true := decide_eq_true c4
        have c4b1 : decide (0 < t125.length) = true := decide_eq_true (by omega)
        clear c4
        by_cases c5 : ((rd_T43 t125 0).f0) = 4
        · rw [if_pos c5] at H
          have c5b0 : (((rd_T43 t125 0).f0) == 4) = true := beq_iff_eq.mpr c5
          have c5b1 : (((rd_T43 t125 0).f0) != 4) = false := bne_eq_false_iff_eq.mpr c5
          clear c5
          by_cases c6 : 2 < (t125.length : Int)
          · rw [if_pos c6] at H
            have c6b0 : decide (2 < (t125.length : Int)) = true := decide_eq_true c6
            have c6b1 : decide (2 < t125.length) = true := decide_eq_true (by omega)
            clear c6
            by_cases c7 : ((rd_T43 t125 2).f0) = 3
            · rw [if_pos c7] at H
              have c7b0 : (((rd_T43 t125 2).f0) == 3) = true := beq_iff_eq.mpr c7
              have c7b1 : (((rd_T43 t125 2).f0) != 3) = false := bne_eq_false_iff_eq.mpr c7
              clear c7
              by_cases c8 : 7 < (t125.length : Int)
              · rw [if_pos c8] at H
                have c8b0 : decide (7 < (t125.length : Int)) = true := decide_eq_true c8
                have c8b1 : decide (7 < t125.length) = true := decide_eq_true (by omega)
                clear c8
                by_cases c9 : ((rd_T43 t125 7).f0) = 2
                · rw [if_pos c9] at H
                  have c9b0 : (((rd_T43 t125 7).f0) == 2) = true := beq_iff_eq.mpr c9
                  have c9b1 : (((rd_T43 t125 7).f0) != 2) = false := bne_eq_false_iff_eq.mpr c9
                  clear c9
                  by_cases c10 : ((rd_T43 t125 7).f1).toList = ([97, 34, 98] : List UInt8)
                  · rw [if_pos c10] at H
                    have c10b0 : (((rd_T43 t125 7).f1).toList == ([97, 34, 98] : List UInt8)) = true := beq_iff_eq.mpr c10
                    have c10b1 : (((rd_T43 t125 7).f1).toList != ([97, 34, 98] : List UInt8)) = false := bne_eq_false_iff_eq.mpr c10
                    clear c10
                    by_cases c11 : 8 < (t125.length : Int)
                    · rw [if_pos c11] at H
                      have c11b0 : decide (8 < (t125.length : Int)) = true := decide_eq_true c11
                      have c11b1 : decide (8 < t125.length) = true := decide_eq_true (by omega)
                      clear c11
                      obtain rfl := Option.some.inj H
                      go_enter Tryd.func23, Tryd.ntmps23
                      go_wp2_with (first | ((with_reducible refine gate_callee (f := 24) rfl ?_); refine goesL_ (some 5) rfl rfl Tryd.func24 (by kernel_rfl) rfl #[.string (⟨#[83, 85, 77, 40, 65, 49, 58, 36, 66, 50, 41, 32, 38, 32, 34, 97, 34, 34, 98, 34]⟩ : ByteArray)] rfl (by (try simp only [List.map_toArray, List.map_cons, List.map_nil]); first | done | rfl | (simp only [List.length_drop, List.length_take]; rfl)) ?_; (with_reducible refine (lex_Scan.calls (hL := ⟨by first | exact hL.out | (refine hL.out.drawn ?_; (repeat (first | exact Drawn0.refl _ | apply Drawn0.step)); done) | (refine hL.out.below ?_; (repeat (first | (with_reducible first | exact HB.out | apply below_alloc | apply pw_below_drewN | apply below_drew1) | exact HB.out)); done)⟩) k (⟨#[83, 85, 77, 40, 65, 49, 58, 36, 66, 50, 41, 32, 38, 32, 34, 97, 34, 34, 98, 34]⟩ : ByteArray) t125 t126 true _ A1.out).mono ?_); rintro e w12 ⟨v128, rfl, ho0, hb⟩; refine ⟨_, rfl, ?_⟩; have n0_ := Aside0.mk (Kd.R_lower ho0 (below_size (by repeat (first | (with_reducible first | exact HB.out | apply below_alloc | apply pw_below_drewN | apply below_drew1) | exact HB.out)))); have n1_ := Aside0.mk (below_step (by repeat (first | (with_reducible first | exact HB.out | apply below_alloc | apply pw_below_drewN | apply below_drew1) | exact HB.out)) hb); clear HB; have HO129 := n0_; have HB := n1_; clear n0_ n1_; (try clear hb); (try clear hb2); (try clear hk); (try clear hi); (try clear ho0); obtain ⟨Ao13, co13, eo13⟩ := Kd.R_slice HO129.out; subst eo13; have p130 : 0 ≤ (0 : Int) := (by omega); have q130 : 0 < (t125.length : Int) := of_decide_eq_true (by first | (with_reducible assumption) | assumption); obtain ⟨ad130, e130, hx130_0, hx130_1, hx130_2⟩ := at_T43 (Kd.R_reads' HO129.out).2.2 0 p130 q130; cases e130; have qi130 : (0 < t125.length) = True := eq_true (by omega); (try rw [show ((0 : Int)).toNat = 0 from rfl] at hx130_0); (try rw [show 0 * 3 = 0 from rfl] at hx130_0); (try rw [Addr.add_zero'] at hx130_0); (try rw [show ((0 : Int)).toNat = 0 from rfl] at hx130_1); (try rw [show 0 * 3 = 0 from rfl] at hx130_1); (try rw [Addr.add_zero'] at hx130_1); (try rw [show ((0 : Int)).toNat = 0 from rfl] at hx130_2); (try rw [show 0 * 3 = 0 from rfl] at hx130_2); (try rw [Addr.add_zero'] at hx130_2); replace p130 := eq_true p130; replace q130 := eq_true q130; have p131 : 0 ≤ (2 : Int) := (by omega); have q131 : 2 < (t125.length : Int) := of_decide_eq_true (by first | (with_reducible assumption) | assumption); obtain ⟨ad131, e131, hx131_0, hx131_1, hx131_2⟩ := at_T43 (Kd.R_reads' HO129.out).2.2 2 p131 q131; obtain rfl : ad130 = ad131 := (by injection e131); (try simp only [show (2 : Int).toNat = 2 from rfl, Nat.reduceMul, Nat.reduceEqDiff, Go.Addr.add, ↓reduceIte] at hx131_0); (try simp only [show (2 : Int).toNat = 2 from rfl, Nat.reduceMul, Nat.reduceEqDiff, Go.Addr.add, ↓reduceIte] at hx131_1); (try simp only [show (2 : Int).toNat = 2 from rfl, Nat.reduceMul, Nat.reduceEqDiff, Go.Addr.add, ↓reduceIte] at hx131_2); have qi131 : (2 < t125.length) = True := eq_true (by omega); (try rw [show ((2 : Int)).toNat = 2 from rfl] at hx131_0); (try rw [show 2 * 3 = 6 from rfl] at hx131_0); (try rw [show ((2 : Int)).toNat = 2 from rfl] at hx131_1); (try rw [show 2 * 3 = 6 from rfl] at hx131_1); (try rw [show ((2 : Int)).toNat = 2 from rfl] at hx131_2); (try rw [show 2 * 3 = 6 from rfl] at hx131_2); replace p131 := eq_true p131; replace q131 := eq_true q131; have p132 : 0 ≤ (7 : Int) := (by omega); have q132 : 7 < (t125.length : Int) := of_decide_eq_true (by first | (with_reducible assumption) | assumption); obtain ⟨ad132, e132, hx132_0, hx132_1, hx132_2⟩ := at_T43 (Kd.R_reads' HO129.out).2.2 7 p132 q132; obtain rfl : ad130 = ad132 := (by injection e132); (try simp only [show (7 : Int).toNat = 7 from rfl, Nat.reduceMul, Nat.reduceEqDiff, Go.Addr.add, ↓reduceIte] at hx132_0); (try simp only [show (7 : Int).toNat = 7 from rfl, Nat.reduceMul, Nat.reduceEqDiff, Go.Addr.add, ↓reduceIte] at hx132_1); (try simp only [show (7 : Int).toNat = 7 from rfl, Nat.reduceMul, Nat.reduceEqDiff, Go.Addr.add, ↓reduceIte] at hx132_2); have qi132 : (7 < t125.length) = True := eq_true (by omega); (try rw [show ((7 : Int)).toNat = 7 from rfl] at hx132_0); (try rw [show 7 * 3 = 21 from rfl] at hx132_0); (try rw [show ((7 : Int)).toNat = 7 from rfl] at hx132_1); (try rw [show 7 * 3 = 21 from rfl] at hx132_1); (try rw [show ((7 : Int)).toNat = 7 from rfl] at hx132_2); (try rw [show 7 * 3 = 21 from rfl] at hx132_2); replace p132 := eq_true p132; replace q132 := eq_true q132; have p133 : 0 ≤ (7 : Int) := (by omega); have q133 : 7 < (t125.length : Int) := of_decide_eq_true (by first | (with_reducible assumption) | assumption); obtain ⟨ad133, e133, hx133_0, hx133_1, hx133_2⟩ := at_T43 (Kd.R_reads' HO129.out).2.2 7 p133 q133; obtain rfl : ad130 = ad133 := (by injection e133); (try simp only [show (7 : Int).toNat = 7 from rfl, Nat.reduceMul, Nat.reduceEqDiff, Go.Addr.add, ↓reduceIte] at hx133_0); (try simp only [show (7 : Int).toNat = 7 from rfl, Nat.reduceMul, Nat.reduceEqDiff, Go.Addr.add, ↓reduceIte] at hx133_1); (try simp only [show (7 : Int).toNat = 7 from rfl, Nat.reduceMul, Nat.reduceEqDiff, Go.Addr.add, ↓reduceIte] at hx133_2); have qi133 : (7 < t125.length) = True := eq_true (by omega); (try rw [show ((7 : Int)).toNat = 7 from rfl] at hx133_0); (try rw [show 7 * 3 = 21 from rfl] at hx133_0); (try rw [show ((7 : Int)).toNat = 7 from rfl] at hx133_1); (try rw [show 7 * 3 = 21 from rfl] at hx133_1); (try rw [show ((7 : Int)).toNat = 7 from rfl] at hx133_2); (try rw [show 7 * 3 = 21 from rfl] at hx133_2); replace p133 := eq_true p133; replace q133 := eq_true q133; have p134 : 0 ≤ (8 : Int) := (by omega); have q134 : 8 < (t125.length : Int) := of_decide_eq_true (by first | (with_reducible assumption) | assumption); obtain ⟨ad134, e134, hx134_0, hx134_1, hx134_2⟩ := at_T43 (Kd.R_reads' HO129.out).2.2 8 p134 q134; obtain rfl : ad130 = ad134 := (by injection e134); (try simp only [show (8 : Int).toNat = 8 from rfl, Nat.reduceMul, Nat.reduceEqDiff, Go.Addr.add, ↓reduceIte] at hx134_0); (try simp only [show (8 : Int).toNat = 8 from rfl, Nat.reduceMul, Nat.reduceEqDiff, Go.Addr.add, ↓reduceIte] at hx134_1); (try simp only [show (8 : Int).toNat = 8 from rfl, Nat.reduceMul, Nat.reduceEqDiff, Go.Addr.add, ↓reduceIte] at hx134_2); have qi134 : (8 < t125.length) = True := eq_true (by omega); (try rw [show ((8 : Int)).toNat = 8 from rfl] at hx134_0); (try rw [show 8 * 3 = 24 from rfl] at hx134_0); (try rw [show ((8 : Int)).toNat = 8 from rfl] at hx134_1); (try rw [show 8 * 3 = 24 from rfl] at hx134_1); (try rw [show ((8 : Int)).toNat = 8 from rfl] at hx134_2); (try rw [show 8 * 3 = 24 from rfl] at hx134_2); replace p134 := eq_true p134; replace q134 := eq_true q134))
                      go_ret
                      exact ⟨by first | rfl | (simp [errW_none, errW_some] <;> rfl) | (simp [*, errW_none, errW_some] <;> rfl) | (simp [*, errW_none, errW_some] <;> (generalize ByteArray.toList _ = l_; cases l_ <;> rfl)), by repeat (first | (with_reducible first | exact HB.out | apply below_alloc | apply pw_below_drewN | apply below_drew1) | exact HB.out)⟩
                    · rw [if_neg c11] at H
                      exact absurd H (by simp)
                  · rw [if_neg c10] at H
                    have c10b0 : (((rd_T43 t125 7).f1).toList == ([97, 34, 98] : List UInt8)) = false := beq_eq_false_iff_ne.mpr c10
                    have c10b1 : (((rd_T43 t125 7).f1).toList != ([97, 34, 98] : List UInt8)) = true := bne_iff_ne.mpr c10
                    obtain rfl := Option.some.inj H
                    go_enter Tryd.func23, Tryd.ntmps23
                    go_wp2_with (first | ((with_reducible refine gate_callee (f := 24) rfl ?_); refine goesL_ (some 5) rfl rfl Tryd.func24 (by kernel_rfl) rfl #[.string (⟨#[83, 85, 77, 40, 65, 49, 58, 36, 66, 50, 41, 32, 38, 32, 34, 97, 34, 34, 98, 34]⟩ : ByteArray)] rfl (by (try simp only [List.map_toArray, List.map_cons, List.map_nil]); first | done | rfl | (simp only [List.length_drop, List.length_take]; rfl)) ?_; (with_reducible refine (lex_Scan.calls (hL := ⟨by first | exact hL.out | (refine hL.out.drawn ?_; (repeat (first | exact Drawn0.refl _ | apply Drawn0.step)); done) | (refine hL.out.below ?_; (repeat (first | (with_reducible first | exact HB.out | apply below_alloc | apply pw_below_drewN | apply below_drew1) | exact HB.out)); done)⟩) k (⟨#[83, 85, 77, 40, 65, 49, 58, 36, 66, 50, 41, 32, 38, 32, 34, 97, 34, 34, 98, 34]⟩ : ByteArray) t125 t126 true _ A1.out).mono ?_); rintro e w14 ⟨v128, rfl, ho0, hb⟩; refine ⟨_, rfl, ?_⟩; have n0_ := Aside0.mk (Kd.R_lower ho0 (below_size (by repeat (first | (with_reducible first | exact HB.out | apply below_alloc | apply pw_below_drewN | apply below_drew1) | exact HB.out)))); have n1_ := Aside0.mk (below_step (by repeat (first | (with_reducible first | exact HB.out | apply below_alloc | apply pw_below_drewN | apply below_drew1) | exact HB.out)) hb); clear HB; have HO129 := n0_; have HB := n1_; clear n0_ n1_; (try clear hb); (try clear hb2); (try clear hk); (try clear hi); (try clear ho0); obtain ⟨Ao15, co15, eo15⟩ := Kd.R_slice HO129.out; subst eo15; have p130 : 0 ≤ (0 : Int) := (by omega); have q130 : 0 < (t125.length : Int) := of_decide_eq_true (by first | (with_reducible assumption) | assumption); obtain ⟨ad130, e130, hx130_0, hx130_1, hx130_2⟩ := at_T43 (Kd.R_reads' HO129.out).2.2 0 p130 q130; cases e130; have qi130 : (0 < t125.length) = True := eq_true (by omega); (try rw [show ((0 : Int)).toNat = 0 from rfl] at hx130_0); (try rw [show 0 * 3 = 0 from rfl] at hx130_0); (try rw [Addr.add_zero'] at hx130_0); (try rw [show ((0 : Int)).toNat = 0 from rfl] at hx130_1); (try rw [show 0 * 3 = 0 from rfl] at hx130_1); (try rw [Addr.add_zero'] at hx130_1); (try rw [show ((0 : Int)).toNat = 0 from rfl] at hx130_2); (try rw [show 0 * 3 = 0 from rfl] at hx130_2); (try rw [Addr.add_zero'] at hx130_2); replace p130 := eq_true p130; replace q130 := eq_true q130; have p131 : 0 ≤ (2 : Int) := (by omega); have q131 : 2 < (t125.length : Int) := of_decide_eq_true (by first | (with_reducible assumption) | assumption); obtain ⟨ad131, e131, hx131_0, hx131_1, hx131_2⟩ := at_T43 (Kd.R_reads' HO129.out).2.2 2 p131 q131; obtain rfl : ad130 = ad131 := (by injection e131); (try simp only [show (2 : Int).toNat = 2 from rfl, Nat.reduceMul, Nat.reduceEqDiff, Go.Addr.add, ↓reduceIte] at hx131_0); (try simp only [show (2 : Int).toNat = 2 from rfl, Nat.reduceMul, Nat.reduceEqDiff, Go.Addr.add, ↓reduceIte] at hx131_1); (try simp only [show (2 : Int).toNat = 2 from rfl, Nat.reduceMul, Nat.reduceEqDiff, Go.Addr.add, ↓reduceIte] at hx131_2); have qi131 : (2 < t125.length) = True := eq_true (by omega); (try rw [show ((2 : Int)).toNat = 2 from rfl] at hx131_0); (try rw [show 2 * 3 = 6 from rfl] at hx131_0); (try rw [show ((2 : Int)).toNat = 2 from rfl] at hx131_1); (try rw [show 2 * 3 = 6 from rfl] at hx131_1); (try rw [show ((2 : Int)).toNat = 2 from rfl] at hx131_2); (try rw [show 2 * 3 = 6 from rfl] at hx131_2); replace p131 := eq_true p131; replace q131 := eq_true q131; have p132 : 0 ≤ (7 : Int) := (by omega); have q132 : 7 < (t125.length : Int) := of_decide_eq_true (by first | (with_reducible assumption) | assumption); obtain ⟨ad132, e132, hx132_0, hx132_1, hx132_2⟩ := at_T43 (Kd.R_reads' HO129.out).2.2 7 p132 q132; obtain rfl : ad130 = ad132 := (by injection e132); (try simp only [show (7 : Int).toNat = 7 from rfl, Nat.reduceMul, Nat.reduceEqDiff, Go.Addr.add, ↓reduceIte] at hx132_0); (try simp only [show (7 : Int).toNat = 7 from rfl, Nat.reduceMul, Nat.reduceEqDiff, Go.Addr.add, ↓reduceIte] at hx132_1); (try simp only [show (7 : Int).toNat = 7 from rfl, Nat.reduceMul, Nat.reduceEqDiff, Go.Addr.add, ↓reduceIte] at hx132_2); have qi132 : (7 < t125.length) = True := eq_true (by omega); (try rw [show ((7 : Int)).toNat = 7 from rfl] at hx132_0); (try rw [show 7 * 3 = 21 from rfl] at hx132_0); (try rw [show ((7 : Int)).toNat = 7 from rfl] at hx132_1); (try rw [show 7 * 3 = 21 from rfl] at hx132_1); (try rw [show ((7 : Int)).toNat = 7 from rfl] at hx132_2); (try rw [show 7 * 3 = 21 from rfl] at hx132_2); replace p132 := eq_true p132; replace q132 := eq_true q132; have p133 : 0 ≤ (7 : Int) := (by omega); have q133 : 7 < (t125.length : Int) := of_decide_eq_true (by first | (with_reducible assumption) | assumption); obtain ⟨ad133, e133, hx133_0, hx133_1, hx133_2⟩ := at_T43 (Kd.R_reads' HO129.out).2.2 7 p133 q133; obtain rfl : ad130 = ad133 := (by injection e133); (try simp only [show (7 : Int).toNat = 7 from rfl, Nat.reduceMul, Nat.reduceEqDiff, Go.Addr.add, ↓reduceIte] at hx133_0); (try simp only [show (7 : Int).toNat = 7 from rfl, Nat.reduceMul, Nat.reduceEqDiff, Go.Addr.add, ↓reduceIte] at hx133_1); (try simp only [show (7 : Int).toNat = 7 from rfl, Nat.reduceMul, Nat.reduceEqDiff, Go.Addr.add, ↓reduceIte] at hx133_2); have qi133 : (7 < t125.length) = True := eq_true (by omega); (try rw [show ((7 : Int)).toNat = 7 from rfl] at hx133_0); (try rw [show 7 * 3 = 21 from rfl] at hx133_0); (try rw [show ((7 : Int)).toNat = 7 from rfl] at hx133_1); (try rw [show 7 * 3 = 21 from rfl] at hx133_1); (try rw [show ((7 : Int)).toNat = 7 from rfl] at hx133_2); (try rw [show 7 * 3 = 21 from rfl] at hx133_2); replace p133 := eq_true p133; replace q133 := eq_true q133))
                    go_ret
                    exact ⟨by first | rfl | (simp [errW_none, errW_some] <;> rfl) | (simp [*, errW_none, errW_some] <;> rfl) | (simp [*, errW_none, errW_some] <;> (generalize ByteArray.toList _ = l_; cases l_ <;> rfl)), by repeat (first | (with_reducible first | exact HB.out | apply below_alloc | apply pw_below_drewN | apply below_drew1) | exact HB.out)⟩
                · rw [if_neg c9] at H
                  have c9b0 : (((rd_T43 t125 7).f0) == 2) = false := beq_eq_false_iff_ne.mpr c9
                  have c9b1 : (((rd_T43 t125 7).f0) != 2) = true := bne_iff_ne.mpr c9
                  obtain rfl := Option.some.inj H
                  go_enter Tryd.func23, Tryd.ntmps23
                  go_wp2_with (first | ((with_reducible refine gate_callee (f := 24) rfl ?_); refine goesL_ (some 5) rfl rfl Tryd.func24 (by kernel_rfl) rfl #[.string (⟨#[83, 85, 77, 40, 65, 49, 58, 36, 66, 50, 41, 32, 38, 32, 34, 97, 34, 34, 98, 34]⟩ : ByteArray)] rfl (by (try simp only [List.map_toArray, List.map_cons, List.map_nil]); first | done | rfl | (simp only [List.length_drop, List.length_take]; rfl)) ?_; (with_reducible refine (lex_Scan.calls (hL := ⟨by first | exact hL.out | (refine hL.out.drawn ?_; (repeat (first | exact Drawn0.refl _ | apply Drawn0.step)); done) | (refine hL.out.below ?_; (repeat (first | (with_reducible first | exact HB.out | apply below_alloc | apply pw_below_drewN | apply below_drew1) | exact HB.out)); done)⟩) k (⟨#[83, 85, 77, 40, 65, 49, 58, 36, 66, 50, 41, 32, 38, 32, 34, 97, 34, 34, 98, 34]⟩ : ByteArray) t125 t126 true _ A1.out).mono ?_); rintro e w16 ⟨v128, rfl, ho0, hb⟩; refine ⟨_, rfl, ?_⟩; have n0_ := Aside0.mk (Kd.R_lower ho0 (below_size (by repeat (first | (with_reducible first | exact HB.out | apply below_alloc | apply pw_below_drewN | apply below_drew1) | exact HB.out)))); have n1_ := Aside0.mk (below_step (by repeat (first | (with_reducible first | exact HB.out | apply below_alloc | apply pw_below_drewN | apply below_drew1) | exact HB.out)) hb); clear HB; have HO129 := n0_; have HB := n1_; clear n0_ n1_; (try clear hb); (try clear hb2); (try clear hk); (try clear hi); (try clear ho0); obtain ⟨Ao17, co17, eo17⟩ := Kd.R_slice HO129.out; subst eo17; have p130 : 0 ≤ (0 : Int) := (by omega); have q130 : 0 < (t125.length : Int) := of_decide_eq_true (by first | (with_reducible assumption) | assumption); obtain ⟨ad130, e130, hx130_0, hx130_1, hx130_2⟩ := at_T43 (Kd.R_reads' HO129.out).2.2 0 p130 q130; cases e130; have qi130 : (0 < t125.length) = True := eq_true (by omega); (try rw [show ((0 : Int)).toNat = 0 from rfl] at hx130_0); (try rw [show 0 * 3 = 0 from rfl] at hx130_0); (try rw [Addr.add_zero'] at hx130_0); (try rw [show ((0 : Int)).toNat = 0 from rfl] at hx130_1); (try rw [show 0 * 3 = 0 from rfl] at hx130_1); (try rw [Addr.add_zero'] at hx130_1); (try rw [show ((0 : Int)).toNat = 0 from rfl] at hx130_2); (try rw [show 0 * 3 = 0 from rfl] at hx130_2); (try rw [Addr.add_zero'] at hx130_2); replace p130 := eq_true p130; replace q130 := eq_true q130; have p131 : 0 ≤ (2 : Int) := (by omega); have q131 : 2 < (t125.length : Int) := of_decide_eq_true (by first | (with_reducible assumption) | assumption); obtain ⟨ad131, e131, hx131_0, hx131_1, hx131_2⟩ := at_T43 (Kd.R_reads' HO129.out).2.2 2 p131 q131; obtain rfl : ad130 = ad131 := (by injection e131); (try simp only [show (2 : Int).toNat = 2 from rfl, Nat.reduceMul, Nat.reduceEqDiff, Go.Addr.add, ↓reduceIte] at hx131_0); (try simp only [show (2 : Int).toNat = 2 from rfl, Nat.reduceMul, Nat.reduceEqDiff, Go.Addr.add, ↓reduceIte] at hx131_1); (try simp only [show (2 : Int).toNat = 2 from rfl, Nat.reduceMul, Nat.reduceEqDiff, Go.Addr.add, ↓reduceIte] at hx131_2); have qi131 : (2 < t125.length) = True := eq_true (by omega); (try rw [show ((2 : Int)).toNat = 2 from rfl] at hx131_0); (try rw [show 2 * 3 = 6 from rfl] at hx131_0); (try rw [show ((2 : Int)).toNat = 2 from rfl] at hx131_1); (try rw [show 2 * 3 = 6 from rfl] at hx131_1); (try rw [show ((2 : Int)).toNat = 2 from rfl] at hx131_2); (try rw [show 2 * 3 = 6 from rfl] at hx131_2); replace p131 := eq_true p131; replace q131 := eq_true q131; have p132 : 0 ≤ (7 : Int) := (by omega); have q132 : 7 < (t125.length : Int) := of_decide_eq_true (by first | (with_reducible assumption) | assumption); obtain ⟨ad132, e132, hx132_0, hx132_1, hx132_2⟩ := at_T43 (Kd.R_reads' HO129.out).2.2 7 p132 q132; obtain rfl : ad130 = ad132 := (by injection e132); (try simp only [show (7 : Int).toNat = 7 from rfl, Nat.reduceMul, Nat.reduceEqDiff, Go.Addr.add, ↓reduceIte] at hx132_0); (try simp only [show (7 : Int).toNat = 7 from rfl, Nat.reduceMul, Nat.reduceEqDiff, Go.Addr.add, ↓reduceIte] at hx132_1); (try simp only [show (7 : Int).toNat = 7 from rfl, Nat.reduceMul, Nat.reduceEqDiff, Go.Addr.add, ↓reduceIte] at hx132_2); have qi132 : (7 < t125.length) = True := eq_true (by omega); (try rw [show ((7 : Int)).toNat = 7 from rfl] at hx132_0); (try rw [show 7 * 3 = 21 from rfl] at hx132_0); (try rw [show ((7 : Int)).toNat = 7 from rfl] at hx132_1); (try rw [show 7 * 3 = 21 from rfl] at hx132_1); (try rw [show ((7 : Int)).toNat = 7 from rfl] at hx132_2); (try rw [show 7 * 3 = 21 from rfl] at hx132_2); replace p132 := eq_true p132; replace q132 := eq_true q132))
                  go_ret
                  exact ⟨by first | rfl | (simp [errW_none, errW_some] <;> rfl) | (simp [*, errW_none, errW_some] <;> rfl) | (simp [*, errW_none, errW_some] <;> (generalize ByteArray.toList _ = l_; cases l_ <;> rfl)), by repeat (first | (with_reducible first | exact HB.out | apply below_alloc | apply pw_below_drewN | apply below_drew1) | exact HB.out)⟩
              · rw [if_neg c8] at H
                exact absurd H (by simp)
            · rw [if_neg c7] at H
              have c7b0 : (((rd_T43 t125 2).f0) == 3) = false := beq_eq_false_iff_ne.mpr c7
              have c7b1 : (((rd_T43 t125 2).f0) != 3) = true := bne_iff_ne.mpr c7
              obtain rfl := Option.some.inj H
              go_enter Tryd.func23, Tryd.ntmps23
              go_wp2_with (first | ((with_reducible refine gate_callee (f := 24) rfl ?_); refine goesL_ (some 5) rfl rfl Tryd.func24 (by kernel_rfl) rfl #[.string (⟨#[83, 85, 77, 40, 65, 49, 58, 36, 66, 50, 41, 32, 38, 32, 34, 97, 34, 34, 98, 34]⟩ : ByteArray)] rfl (by (try simp only [List.map_toArray, List.map_cons, List.map_nil]); first | done | rfl | (simp only [List.length_drop, List.length_take]; rfl)) ?_; (with_reducible refine (lex_Scan.calls (hL := ⟨by first | exact hL.out | (refine hL.out.drawn ?_; (repeat (first | exact Drawn0.refl _ | apply Drawn0.step)); done) | (refine hL.out.below ?_; (repeat (first | (with_reducible first | exact HB.out | apply below_alloc | apply pw_below_drewN | apply below_drew1) | exact HB.out)); done)⟩) k (⟨#[83, 85, 77, 40, 65, 49, 58, 36, 66, 50, 41, 32, 38, 32, 34, 97, 34, 34, 98, 34]⟩ : ByteArray) t125 t126 true _ A1.out).mono ?_); rintro e w18 ⟨v128, rfl, ho0, hb⟩; refine ⟨_, rfl, ?_⟩; have n0_ := Aside0.mk (Kd.R_lower ho0 (below_size (by repeat (first | (with_reducible first | exact HB.out | apply below_alloc | apply pw_below_drewN | apply below_drew1) | exact HB.out)))); have n1_ := Aside0.mk (below_step (by repeat (first | (with_reducible first | exact HB.out | apply below_alloc | apply pw_below_drewN | apply below_drew1) | exact HB.out)) hb); clear HB; have HO129 := n0_; have HB := n1_; clear n0_ n1_; (try clear hb); (try clear hb2); (try clear hk); (try clear hi); (try clear ho0); obtain ⟨Ao19, co19, eo19⟩ := Kd.R_slice HO129.out; subst eo19; have p130 : 0 ≤ (0 : Int) := (by omega); have q130 : 0 < (t125.length : Int) := of_decide_eq_true (by first | (with_reducible assumption) | assumption); obtain ⟨ad130, e130, hx130_0, hx130_1, hx130_2⟩ := at_T43 (Kd.R_reads' HO129.out).2.2 0 p130 q130; cases e130; have qi130 : (0 < t125.length) = True := eq_true (by omega); (try rw [show ((0 : Int)).toNat = 0 from rfl] at hx130_0); (try rw [show 0 * 3 = 0 from rfl] at hx130_0); (try rw [Addr.add_zero'] at hx130_0); (try rw [show ((0 : Int)).toNat = 0 from rfl] at hx130_1); (try rw [show 0 * 3 = 0 from rfl] at hx130_1); (try rw [Addr.add_zero'] at hx130_1); (try rw [show ((0 : Int)).toNat = 0 from rfl] at hx130_2); (try rw [show 0 * 3 = 0 from rfl] at hx130_2); (try rw [Addr.add_zero'] at hx130_2); replace p130 := eq_true p130; replace q130 := eq_true q130; have p131 : 0 ≤ (2 : Int) := (by omega); have q131 : 2 < (t125.length : Int) := of_decide_eq_true (by first | (with_reducible assumption) | assumption); obtain ⟨ad131, e131, hx131_0, hx131_1, hx131_2⟩ := at_T43 (Kd.R_reads' HO129.out).2.2 2 p131 q131; obtain rfl : ad130 = ad131 := (by injection e131); (try simp only [show (2 : Int).toNat = 2 from rfl, Nat.reduceMul, Nat.reduceEqDiff, Go.Addr.add, ↓reduceIte] at hx131_0); (try simp only [show (2 : Int).toNat = 2 from rfl, Nat.reduceMul, Nat.reduceEqDiff, Go.Addr.add, ↓reduceIte] at hx131_1); (try simp only [show (2 : Int).toNat = 2 from rfl, Nat.reduceMul, Nat.reduceEqDiff, Go.Addr.add, ↓reduceIte] at hx131_2); have qi131 : (2 < t125.length) = True := eq_true (by omega); (try rw [show ((2 : Int)).toNat = 2 from rfl] at hx131_0); (try rw [show 2 * 3 = 6 from rfl] at hx131_0); (try rw [show ((2 : Int)).toNat = 2 from rfl] at hx131_1); (try rw [show 2 * 3 = 6 from rfl] at hx131_1); (try rw [show ((2 : Int)).toNat = 2 from rfl] at hx131_2); (try rw [show 2 * 3 = 6 from rfl] at hx131_2); replace p131 := eq_true p131; replace q131 := eq_true q131))
              go_ret
              exact ⟨by first | rfl | (simp [errW_none, errW_some] <;> rfl) | (simp [*, errW_none, errW_some] <;> rfl) | (simp [*, errW_none, errW_some] <;> (generalize ByteArray.toList _ = l_; cases l_ <;> rfl)), by repeat (first | (with_reducible first | exact HB.out | apply below_alloc | apply pw_below_drewN | apply below_drew1) | exact HB.out)⟩
          · rw [if_neg c6] at H
            exact absurd H (by simp)
        · rw [if_neg c5] at H
          have c5b0 : (((rd_T43 t125 0).f0) == 4) = false := beq_eq_false_iff_ne.mpr c5
          have c5b1 : (((rd_T43 t125 0).f0) != 4) = true := bne_iff_ne.mpr c5
          obtain rfl := Option.some.inj H
          go_enter Tryd.func23, Tryd.ntmps23
          go_wp2_with (first | ((with_reducible refine gate_callee (f := 24) rfl ?_); refine goesL_ (some 5) rfl rfl Tryd.func24 (by kernel_rfl) rfl #[.string (⟨#[83, 85, 77, 40, 65, 49, 58, 36, 66, 50, 41, 32, 38, 32, 34, 97, 34, 34, 98, 34]⟩ : ByteArray)] rfl (by (try simp only [List.map_toArray, List.map_cons, List.map_nil]); first | done | rfl | (simp only [List.length_drop, List.length_take]; rfl)) ?_; (with_reducible refine (lex_Scan.calls (hL := ⟨by first | exact hL.out | (refine hL.out.drawn ?_; (repeat (first | exact Drawn0.refl _ | apply Drawn0.step)); done) | (refine hL.out.below ?_; (repeat (first | (with_reducible first | exact HB.out | apply below_alloc | apply pw_below_drewN | apply below_drew1) | exact HB.out)); done)⟩) k (⟨#[83, 85, 77, 40, 65, 49, 58, 36, 66, 50, 41, 32, 38, 32, 34, 97, 34, 34, 98, 34]⟩ : ByteArray) t125 t126 true _ A1.out).mono ?_); rintro e w20 ⟨v128, rfl, ho0, hb⟩; refine ⟨_, rfl, ?_⟩; have n0_ := Aside0.mk (Kd.R_lower ho0 (below_size (by repeat (first | (with_reducible first | exact HB.out | apply below_alloc | apply pw_below_drewN | apply below_drew1) | exact HB.out)))); have n1_ := Aside0.mk (below_step (by repeat (first | (with_reducible first | exact HB.out | apply below_alloc | apply pw_below_drewN | apply below_drew1) | exact HB.out)) hb); clear HB; have HO129 := n0_; have HB := n1_; clear n0_ n1_; (try clear hb); (try clear hb2); (try clear hk); (try clear hi); (try clear ho0); obtain ⟨Ao21, co21, eo21⟩ := Kd.R_slice HO129.out; subst eo21; have p130 : 0 ≤ (0 : Int) := (by omega); have q130 : 0 < (t125.length : Int) := of_decide_eq_true (by first | (with_reducible assumption) | assumption); obtain ⟨ad130, e130, hx130_0, hx130_1, hx130_2⟩ := at_T43 (Kd.R_reads' HO129.out).2.2 0 p130 q130; cases e130; have qi130 : (0 < t125.length) = True := eq_true (by omega); (try rw [show ((0 : Int)).toNat = 0 from rfl] at hx130_0); (try rw [show 0 * 3 = 0 from rfl] at hx130_0); (try rw [Addr.add_zero'] at hx130_0); (try rw [show ((0 : Int)).toNat = 0 from rfl] at hx130_1); (try rw [show 0 * 3 = 0 from rfl] at hx130_1); (try rw [Addr.add_zero'] at hx130_1); (try rw [show ((0 : Int)).toNat = 0 from rfl] at hx130_2); (try rw [show 0 * 3 = 0 from rfl] at hx130_2); (try rw [Addr.add_zero'] at hx130_2); replace p130 := eq_true p130; replace q130 := eq_true q130))
          go_ret
          exact ⟨by first | rfl | (simp [errW_none, errW_some] <;> rfl) | (simp [*, errW_none, errW_some] <;> rfl) | (simp [*, errW_none, errW_some] <;> (generalize ByteArray.toList _ = l_; cases l_ <;> rfl)), by repeat (first | (with_reducible first | exact HB.out | apply below_alloc | apply pw_below_drewN | apply below_drew1) | exact HB.out)⟩
      · rw [if_neg c4] at H
        exact absurd H (by simp)
    · rw [if_neg c3] at H
      have c3b0 : ((t125.length : Int) == 9) = false := beq_eq_false_iff_ne.mpr c3
      have c3b1 : ((t125.length : Int) != 9) = true := bne_iff_ne.mpr c3
      obtain rfl := Option.some.inj H
      go_enter Tryd.func23, Tryd.ntmps23
      go_wp2_with (first | ((with_reducible refine gate_callee (f := 24) rfl ?_); refine goesL_ (some 5) rfl rfl Tryd.func24 (by kernel_rfl) rfl #[.string (⟨#[83, 85, 77, 40, 65, 49, 58, 36, 66, 50, 41, 32, 38, 32, 34, 97, 34, 34, 98, 34]⟩ : ByteArray)] rfl (by (try simp only [List.map_toArray, List.map_cons, List.map_nil]); first | done | rfl | (simp only [List.length_drop, List.length_take]; rfl)) ?_; (with_reducible refine (lex_Scan.calls (hL := ⟨by first | exact hL.out | (refine hL.out.drawn ?_; (repeat (first | exact Drawn0.refl _ | apply Drawn0.step)); done) | (refine hL.out.below ?_; (repeat (first | (with_reducible first | exact HB.out | apply below_alloc | apply pw_below_drewN | apply below_drew1) | exact HB.out)); done)⟩) k (⟨#[83, 85, 77, 40, 65, 49, 58, 36, 66, 50, 41, 32, 38, 32, 34, 97, 34, 34, 98, 34]⟩ : ByteArray) t125 t126 true _ A1.out).mono ?_); rintro e w22 ⟨v128, rfl, ho0, hb⟩; refine ⟨_, rfl, ?_⟩; have n0_ := Aside0.mk (Kd.R_lower ho0 (below_size (by repeat (first | (with_reducible first | exact HB.out | apply below_alloc | apply pw_below_drewN | apply below_drew1) | exact HB.out)))); have n1_ := Aside0.mk (below_step (by repeat (first | (with_reducible first | exact HB.out | apply below_alloc | apply pw_below_drewN | apply below_drew1) | exact HB.out)) hb); clear HB; have HO129 := n0_; have HB := n1_; clear n0_ n1_; (try clear hb); (try clear hb2); (try clear hk); (try clear hi); (try clear ho0); obtain ⟨Ao23, co23, eo23⟩ := Kd.R_slice HO129.out; subst eo23))
      go_ret
      exact ⟨by first | rfl | (simp [errW_none, errW_some] <;> rfl) | (simp [*, errW_none, errW_some] <;> rfl) | (simp [*, errW_none, errW_some] <;> (generalize ByteArray.toList _ = l_; cases l_ <;> rfl)), by repeat (first | (with_reducible first | exact HB.out | apply below_alloc | apply pw_below_drewN | apply below_drew1) | exact HB.out)⟩
  · replace c2 := Bool.eq_false_iff.mpr c2
    subst c2
    have H1 : (some false) = some r := by rw [if_neg (show ¬ (false = true) by decide)] at H; exact H
    clear H
    have H := H1
    clear H1
    obtain rfl := Option.some.inj H
    go_enter Tryd.func23, Tryd.ntmps23
    go_wp2_with (first | ((with_reducible refine gate_callee (f := 24) rfl ?_); refine goesL_ (some 5) rfl rfl Tryd.func24 (by kernel_rfl) rfl #[.string (⟨#[83, 85, 77, 40, 65, 49, 58, 36, 66, 50, 41, 32, 38, 32, 34, 97, 34, 34, 98, 34]⟩ : ByteArray)] rfl (by (try simp only [List.map_toArray, List.map_cons, List.map_nil]); first | done | rfl | (simp only [List.length_drop, List.length_take]; rfl)) ?_; (with_reducible refine (lex_Scan.calls (hL := ⟨by first | exact hL.out | (refine hL.out.drawn ?_; (repeat (first | exact Drawn0.refl _ | apply Drawn0.step)); done) | (refine hL.out.below ?_; (repeat (first | (with_reducible first | exact HB.out | apply below_alloc | apply pw_below_drewN | apply below_drew1) | exact HB.out)); done)⟩) k (⟨#[83, 85, 77, 40, 65, 49, 58, 36, 66, 50, 41, 32, 38, 32, 34, 97, 34, 34, 98, 34]⟩ : ByteArray) t125 t126 false _ A1.out).mono ?_); rintro e w24 ⟨v128, rfl, ho0, hb⟩; refine ⟨_, rfl, ?_⟩; have n0_ := Aside0.mk (Kd.R_lower ho0 (below_size (by repeat (first | (with_reducible first | exact HB.out | apply below_alloc | apply pw_below_drewN | apply below_drew1) | exact HB.out)))); have n1_ := Aside0.mk (below_step (by repeat (first | (with_reducible first | exact HB.out | apply below_alloc | apply pw_below_drewN | apply below_drew1) | exact HB.out)) hb); clear HB; have HO129 := n0_; have HB := n1_; clear n0_ n1_; (try clear hb); (try clear hb2); (try clear hk); (try clear hi); (try clear ho0)))
    go_ret
    exact ⟨by first | rfl | (simp [errW_none, errW_some] <;> rfl) | (simp [*, errW_none, errW_some] <;> rfl) | (simp [*, errW_none, errW_some] <;> (generalize ByteArray.toList _ = l_; cases l_ <;> rfl)), by repeat (first | (with_reducible first | exact HB.out | apply below_alloc | apply pw_below_drewN | apply below_drew1) | exact HB.out)⟩
end Go.Proofs.YtpabggjnkoehfaaDoor.ELex
end
section
namespace Go.Proofs.YtpabggjnkoehfaaDoor.ELex
open Go.RowKit Go.Proofs.YtpabggjnkoehfaaDoor.ExtL Go.Proofs.YtpabggjnkoehfaaDoorW.PrintWords Go.Proofs.YtpabggjnkoehfaaDoorW.PrintLast Go.Proofs.YtpabggjnkoehfaaDoorW.PrintMore
attribute [local go_sem] max2_int min2_int max_two min_two max_three min_three max_four min_four   
set_option linter.unusedVariables false
set_option linter.unusedSimpArgs false
mutual
def counterpanelaw6_LexBlanks.j0 : Nat → ByteArray → Int → Bool → Bool → Option (Bool)
  | 0, _, _, _, _ => none
  | k + 1, x0, x1, x5, x25 => if x25 = true then (counterpanelaw6_LexBlanks.j1 k x0 1 x5) else (counterpanelaw6_LexBlanks.j1 k x0 x1 x5)
def counterpanelaw6_LexBlanks.j1 : Nat → ByteArray → Int → Bool → Option (Bool)
  | 0, _, _, _ => none
  | k + 1, x0, x1, x5 => (lex_Scan.f k x0).bind fun bt137 => (if bt137.2.2 = true then (counterpanelaw6_LexBlanks.l0 k x0 x1 x5 bt137.1 (⟨#[]⟩ : ByteArray) 0) else (some x5))
def counterpanelaw6_LexBlanks.l0 : Nat → ByteArray → Int → Bool → List (S43) → ByteArray → Int → Option (Bool)
  | 0, _, _, _, _, _, _ => none
  | k + 1, x0, x1, x5, x6, x9, x10 => if (wrap64 (x10 + 1)) < (x6.length : Int) then (if 0 ≤ x10 then (if x10 < (x6.length : Int) then (if 0 ≤ (wrap64 (x10 + 1)) then (if 0 ≤ ((rd_T43 x6 x10).f2) then (if ((rd_T43 x6 x10).f2) ≤ ((rd_T43 x6 (wrap64 (x10 + 1))).f2) then (if ((rd_T43 x6 (wrap64 (x10 + 1))).f2) ≤ (x0.size : Int) then (if x9.size + (x0.extract (((rd_T43 x6 x10).f2) : Int).toNat (((rd_T43 x6 (wrap64 (x10 + 1))).f2) : Int).toNat).size ≤ 9223372036854775807 then (if ((rd_T43 x6 x10).f0) = 4 then (counterpanelaw6_LexBlanks.l0 k x0 x1 x5 x6 (x9 ++ (x0.extract (((rd_T43 x6 x10).f2) : Int).toNat (((rd_T43 x6 (wrap64 (x10 + 1))).f2) : Int).toNat)) (wrap64 (x10 + 1))) else (if 0 ≤ x1 then (if x1 ≤ 3 then (if (x9 ++ (x0.extract (((rd_T43 x6 x10).f2) : Int).toNat (((rd_T43 x6 (wrap64 (x10 + 1))).f2) : Int).toNat)).size + ((⟨#[32, 32, 32]⟩ : ByteArray).extract 0 (x1 : Int).toNat).size ≤ 9223372036854775807 then (counterpanelaw6_LexBlanks.l0 k x0 x1 x5 x6 ((x9 ++ (x0.extract (((rd_T43 x6 x10).f2) : Int).toNat (((rd_T43 x6 (wrap64 (x10 + 1))).f2) : Int).toNat)) ++ ((⟨#[32, 32, 32]⟩ : ByteArray).extract 0 (x1 : Int).toNat)) (wrap64 (x10 + 1))) else (none)) else (none)) else (none))) else (none)) else (none)) else (none)) else (none)) else (none)) else (none)) else (none)) else ((lex_Scan.f k x9).bind fun bt145 => (if bt145.2.2 = true then (counterpanelaw6_LexBlanks.j3 k x5 x6 bt145.1 ((bt145.1.length : Int) != (x6.length : Int))) else (counterpanelaw6_LexBlanks.j3 k x5 x6 bt145.1 true)))
def counterpanelaw6_LexBlanks.j3 : Nat → Bool → List (S43) → List (S43) → Bool → Option (Bool)
  | 0, _, _, _, _ => none
  | k + 1, x5, x6, x11, x81 => if x81 = true then (some false) else (counterpanelaw6_LexBlanks.l1 k x5 x6 x11 0)
def counterpanelaw6_LexBlanks.l1 : Nat → Bool → List (S43) → List (S43) → Int → Option (Bool)
  | 0, _, _, _, _ => none
  | k + 1, x5, x6, x11, x14 => if x14 < (x6.length : Int) then (if 0 ≤ x14 then (if x14 < (x11.length : Int) then (if ((rd_T43 x6 x14).f0) = ((rd_T43 x11 x14).f0) then (if ((rd_T43 x6 x14).f1).toList = ((rd_T43 x11 x14).f1).toList then (counterpanelaw6_LexBlanks.l1 k x5 x6 x11 (wrap64 (x14 + 1))) else (some false)) else (some false)) else (none)) else (none)) else (some x5)
end
def counterpanelaw6_LexBlanks.f (k : Nat) (a0 : ByteArray) (a1 : Int) : Option (Bool) := (counterpanelaw6_begun.f k).bind fun t135 => (if t135 = true then ((counterpanelaw5_Short.f a0 200).bind fun t136 => (if a1 < 0 then (counterpanelaw6_LexBlanks.j0 k t136 a1 t135 true) else (counterpanelaw6_LexBlanks.j0 k t136 a1 t135 (decide (a1 > 3))))) else (some false))
set_option maxHeartbeats 8000000 in
set_option maxRecDepth 100000 in
theorem counterpanelaw6_LexBlanks.calls (k : Nat) (a0 : ByteArray) (a1 : Int) (r : Bool) (w : World) (hL : Aside0 (Lq w)) (h : counterpanelaw6_LexBlanks.f k a0 a1 = some r) :
    Calls Tryd.prog 6 #[.string a0, .int .i64 a1] w fun e w' => e = .returned (.bool r) ∧ Below w.heap.size w w' := by
  have HB := Aside0.mk (Below.refl w.heap.size w)
  have H : ((counterpanelaw6_begun.f k).bind fun t135 => (if t135 = true then ((counterpanelaw5_Short.f a0 200).bind fun t136 => (if a1 < 0 then (counterpanelaw6_LexBlanks.j0 k t136 a1 t135 true) else (counterpanelaw6_LexBlanks.j0 k t136 a1 t135 (decide (a1 > 3))))) else (some false))) = some r := h
  clear h
  replace H := Option.bind_eq_some_iff.mp H
  obtain ⟨t135, A30, H⟩ := H
  replace H : (if t135 = true then ((counterpanelaw5_Short.f a0 200).bind fun t136 => (if a1 < 0 then (counterpanelaw6_LexBlanks.j0 k t136 a1 t135 true) else (counterpanelaw6_LexBlanks.j0 k t136 a1 t135 (decide (a1 > 3))))) else (some false)) = some r := H
  have A3 := Aside0.mk A30
  clear A30
  by_cases c4 : t135 = true
  · subst c4
    have H1 : ((counterpanelaw5_Short.f a0 200).bind fun t136 => (if a1 < 0 then (counterpanelaw6_LexBlanks.j0 k t136 a1 true true) else (counterpanelaw6_LexBlanks.j0 k t136 a1 true (decide (a1 > 3))))) = some r := by rw [if_pos rfl] at H; exact H
    clear H
    have H := H1
    clear H1
    replace H := Option.bind_eq_some_iff.mp H
    obtain ⟨t136, A50, H⟩ := H
    replace H : (if a1 < 0 then (counterpanelaw6_LexBlanks.j0 k t136 a1 true true) else (counterpanelaw6_LexBlanks.j0 k t136 a1 true (decide (a1 > 3)))) = some r := H
    have A5 := Aside0.mk A50
    clear A50
    have HC6 := Aside0.mk H
    clear H
    go_enter Tryd.func6, Tryd.ntmps6
    go_upto_region 5 with (first | (go_at_call 23; (with_reducible refine (counterpanelaw6_begun.calls (hL := ⟨by first | exact hL.out | (refine hL.out.drawn ?_; (repeat (first | exact Drawn0.refl _ | apply Drawn0.step)); done) | (refine hL.out.below ?_; (repeat (first | (with_reducible first | exact HB.out | apply below_alloc | apply pw_below_drewN | apply below_drew1) | exact HB.out)); done)⟩) k  true _ A3.out).mono ?_); rintro e w7 ⟨rfl, hb⟩; have n0_ := Aside0.mk (below_step (by repeat (first | (with_reducible first | exact HB.out | apply below_alloc | apply pw_below_drewN | apply below_drew1) | exact HB.out)) hb); clear HB; have HB := n0_; clear n0_; (try clear hb); (try clear hb2); (try clear hk); (try clear hi)) | (go_at_call 8; (with_reducible refine (counterpanelaw5_Short.calls a0 200 t136 _ A5.out).mono ?_); rintro e w' ⟨rfl, ⟨nd, rfl⟩⟩; (try first | exact ⟨rfl, _, World.drewN_drewN _ _ _⟩ | exact ⟨rfl, _, Eq.trans (World.drewN_drewN _ _ _) (congrArg (World.drewN _) (Nat.add_assoc _ _ _))⟩)))
    repeat (go_quiet (first | (go_at_call 23; (with_reducible refine (counterpanelaw6_begun.calls (hL := ⟨by first | exact hL.out | (refine hL.out.drawn ?_; (repeat (first | exact Drawn0.refl _ | apply Drawn0.step)); done) | (refine hL.out.below ?_; (repeat (first | (with_reducible first | exact HB.out | apply below_alloc | apply pw_below_drewN | apply below_drew1) | exact HB.out)); done)⟩) k  true _ A3.out).mono ?_); rintro e w7 ⟨rfl, hb⟩; have n0_ := Aside0.mk (below_step (by repeat (first | (with_reducible first | exact HB.out | apply below_alloc | apply pw_below_drewN | apply below_drew1) | exact HB.out)) hb); clear HB; have HB := n0_; clear n0_; (try clear hb); (try clear hb2); (try clear hk); (try clear hi)) | (go_at_call 8; (with_reducible refine (counterpanelaw5_Short.calls a0 200 t136 _ A5.out).mono ?_); rintro e w' ⟨rfl, ⟨nd, rfl⟩⟩; (try first | exact ⟨rfl, _, World.drewN_drewN _ _ _⟩ | exact ⟨rfl, _, Eq.trans (World.drewN_drewN _ _ _) (congrArg (World.drewN _) (Nat.add_assoc _ _ _))⟩))); go_upto_region 5 with (first | (go_at_call 23; (with_reducible refine (counterpanelaw6_begun.calls (hL := ⟨by first | exact hL.out | (refine hL.out.drawn ?_; (repeat (first | exact Drawn0.refl _ | apply Drawn0.step)); done) | (refine hL.out.below ?_; (repeat (first | (with_reducible first | exact HB.out | apply below_alloc | apply pw_below_drewN | apply below_drew1) | exact HB.out)); done)⟩) k  true _ A3.out).mono ?_); rintro e w7 ⟨rfl, hb⟩; have n0_ := Aside0.mk (below_step (by repeat (first | (with_reducible first | exact HB.out | apply below_alloc | apply pw_below_drewN | apply below_drew1) | exact HB.out)) hb); clear HB; have HB := n0_; clear n0_; (try clear hb); (try clear hb2); (try clear hk); (try clear hi)) | (go_at_call 8; (with_reducible refine (counterpanelaw5_Short.calls a0 200 t136 _ A5.out).mono ?_); rintro e w' ⟨rfl, ⟨nd, rfl⟩⟩; (try first | exact ⟨rfl, _, World.drewN_drewN _ _ _⟩ | exact ⟨rfl, _, Eq.trans (World.drewN_drewN _ _ _) (congrArg (World.drewN _) (Nat.add_assoc _ _ _))⟩))))
    (try simp only [Act.put, List.setIfInBounds_toArray, List.set_cons_zero, List.set_cons_succ])
    go_cut [25] (fun v25 wc => ∃ (kq : Nat) (x25_5 : Bool), v25 = .bool x25_5 ∧ Aside0 (counterpanelaw6_LexBlanks.j0 kq t136 a1 true x25_5 = some r) ∧ Aside0 (kq ≤ k) ∧ Aside0 (Below w.heap.size w wc))
    case first =>
      have H := HC6.out
      clear HC6
      by_cases c8 : a1 < 0
      · rw [if_pos c8] at H
        have c8b0 : decide (a1 < 0) = true := decide_eq_true c8
        clear c8
        (first | rw [c8b0] | (simp only [i64_w, i32_w]; rw [c8b0]) | skip)
        have H' := Aside0.mk H
        clear H
        go_wp2
        repeat (go_quiet (fail); try go_wp2)
        go_meet
        case rel => exact ⟨_, (true), (by first | rfl | (simp; done) | (simp [*]; done)), H', ⟨by first | omega | exact Nat.le_refl _⟩, ⟨by repeat (first | (with_reducible first | exact HB.out | apply below_alloc | apply pw_below_drewN | apply below_drew1) | exact HB.out)⟩⟩
      · rw [if_neg c8] at H
        have c8b0 : decide (a1 < 0) = false := decide_eq_false c8
        clear c8
        (first | rw [c8b0] | (simp only [i64_w, i32_w]; rw [c8b0]) | skip)
        have H' := Aside0.mk H
        clear H
        go_wp2
        repeat (go_quiet (fail); try go_wp2)
        go_meet
        case rel => exact ⟨_, (decide (a1 > 3)), (by first | rfl | (simp; done) | (simp [*]; done)), H', ⟨by first | omega | exact Nat.le_refl _⟩, ⟨by repeat (first | (with_reducible first | exact HB.out | apply below_alloc | apply pw_below_drewN | apply below_drew1) | exact HB.out)⟩⟩
    case rest =>
      clear HC6
      try clear p2
      try clear c4
      try clear c6
      try clear c8
      try clear c8b0
      obtain ⟨kq, x25_5, rfl, HA, HJ5, HB⟩ := hcut
      cases kq with
      | zero => exact absurd HA.out (by simp [counterpanelaw6_LexBlanks.j0])
      | succ kj5 =>
        have H := HA.out
        clear HA
        simp only [counterpanelaw6_LexBlanks.j0] at H
        have HC9 := Aside0.mk H
        clear H
        go_upto_if 25 with (fail)
        repeat (go_quiet (fail); go_upto_if 25 with (fail))
        go_cut [1] (fun v1 wc => ∃ (kq : Nat) (x1_8 : Int), v1 = .int .i64 x1_8 ∧ Aside0 (counterpanelaw6_LexBlanks.j1 kq t136 x1_8 true = some r) ∧ Aside0 (kq ≤ kj5) ∧ Aside0 (Below w.heap.size w wc))
        case first =>
          have H := HC9.out
          clear HC9
          by_cases c10 : x25_5 = true
          · subst c10
            have H1 : (counterpanelaw6_LexBlanks.j1 kj5 t136 1 true) = some r := by rw [if_pos rfl] at H; exact H
            clear H
            have H := H1
            clear H1
            have H' := Aside0.mk H
            clear H
            go_wp2
            repeat (go_quiet (fail); try go_wp2)
            go_meet
            case rel => exact ⟨_, (1), (by first | rfl | (simp; done) | (simp [*]; done)), H', ⟨by have := HJ5.out; first | omega | exact Nat.le_refl _⟩, ⟨by repeat (first | (with_reducible first | exact HB.out | apply below_alloc | apply pw_below_drewN | apply below_drew1) | exact HB.out)⟩⟩
          · replace c10 := Bool.eq_false_iff.mpr c10
            subst c10
            have H1 : (counterpanelaw6_LexBlanks.j1 kj5 t136 a1 true) = some r := by rw [if_neg (show ¬ (false = true) by decide)] at H; exact H
            clear H
            have H := H1
            clear H1
            have H' := Aside0.mk H
            clear H
            go_wp2
            repeat (go_quiet (fail); try go_wp2)
            go_meet
            case rel => exact ⟨_, (a1), (by first | rfl | (simp; done) | (simp [*]; done)), H', ⟨by have := HJ5.out; first | omega | exact Nat.le_refl _⟩, ⟨by repeat (first | (with_reducible first | exact HB.out | apply below_alloc | apply pw_below_drewN | apply below_drew1) | exact HB.out)⟩⟩
        case rest =>
          clear HC9
          try clear c1
          try clear p2
          try clear c4
          try clear c6
          try clear c8
          try clear c8b0
          try clear c10
          try clear p2
          obtain ⟨kq, x1_8, rfl, HA, HJ8, HB⟩ := hcut
          cases kq with
          | zero => exact absurd HA.out (by simp [counterpanelaw6_LexBlanks.j1])
          | succ kj8 =>
            have H := HA.out
            clear HA
            simp only [counterpanelaw6_LexBlanks.j1] at H
            replace H := Option.bind_eq_some_iff.mp H
            obtain ⟨⟨t137, t138, t139⟩, A110, H⟩ := H
            replace H : (if t139 = true then (counterpanelaw6_LexBlanks.l0 kj8 t136 x1_8 true t137 (⟨#[]⟩ : ByteArray) 0) else (some true)) = some r := H
            have A11 := Aside0.mk A110
            clear A110
            by_cases c12 : t139 = true
            · subst c12
              have H1 : (counterpanelaw6_LexBlanks.l0 kj8 t136 x1_8 true t137 (⟨#[]⟩ : ByteArray) 0) = some r := by rw [if_pos rfl] at H; exact H
              clear H
              have H := H1
              clear H1
              have H' := Aside0.mk H
              clear H
              go_wp2_with (first | (go_at_call 24; (with_reducible refine (lex_Scan.calls (hL := ⟨by first | exact hL.out | (refine hL.out.drawn ?_; (repeat (first | exact Drawn0.refl _ | apply Drawn0.step)); done) | (refine hL.out.below ?_; (repeat (first | (with_reducible first | exact HB.out | apply below_alloc | apply pw_below_drewN | apply below_drew1) | exact HB.out)); done)⟩) kj8 t136 t137 t138 true _ A11.out).mono ?_); rintro e w13 ⟨v140, rfl, ho0, hb⟩; have n0_ := Aside0.mk (Kd.R_lower ho0 (below_size (by repeat (first | (with_reducible first | exact HB.out | apply below_alloc | apply pw_below_drewN | apply below_drew1) | exact HB.out)))); have n1_ := Aside0.mk (below_step (by repeat (first | (with_reducible first | exact HB.out | apply below_alloc | apply pw_below_drewN | apply below_drew1) | exact HB.out)) hb); clear HB; have HO141 := n0_; have HB := n1_; clear n0_ n1_; (try clear hb); (try clear hb2); (try clear hk); (try clear hi); (try clear ho0)))
              repeat (go_quiet (first | (go_at_call 24; (with_reducible refine (lex_Scan.calls (hL := ⟨by first | exact hL.out | (refine hL.out.drawn ?_; (repeat (first | exact Drawn0.refl _ | apply Drawn0.step)); done) | (refine hL.out.below ?_; (repeat (first | (with_reducible first | exact HB.out | apply below_alloc | apply pw_below_drewN | apply below_drew1) | exact HB.out)); done)⟩) kj8 t136 t137 t138 true _ A11.out).mono ?_); rintro e w13 ⟨v140, rfl, ho0, hb⟩; have n0_ := Aside0.mk (Kd.R_lower ho0 (below_size (by repeat (first | (with_reducible first | exact HB.out | apply below_alloc | apply pw_below_drewN | apply below_drew1) | exact HB.out)))); have n1_ := Aside0.mk (below_step (by repeat (first | (with_reducible first | exact HB.out | apply below_alloc | apply pw_below_drewN | apply below_drew1) | exact HB.out)) hb); clear HB; have HO141 := n0_; have HB := n1_; clear n0_ n1_; (try clear hb); (try clear hb2); (try clear hk); (try clear hi); (try clear ho0))); try go_wp2_with (first | (go_at_call 24; (with_reducible refine (lex_Scan.calls (hL := ⟨by first | exact hL.out | (refine hL.out.drawn ?_; (repeat (first | exact Drawn0.refl _ | apply Drawn0.step)); done) | (refine hL.out.below ?_; (repeat (first | (with_reducible first | exact HB.out | apply below_alloc | apply pw_below_drewN | apply below_drew1) | exact HB.out)); done)⟩) kj8 t136 t137 t138 true _ A11.out).mono ?_); rintro e w13 ⟨v140, rfl, ho0, hb⟩; have n0_ := Aside0.mk (Kd.R_lower ho0 (below_size (by repeat (first | (with_reducible first | exact HB.out | apply below_alloc | apply pw_below_drewN | apply below_drew1) | exact HB.out)))); have n1_ := Aside0.mk (below_step (by repeat (first | (with_reducible first | exact HB.out | apply below_alloc | apply pw_below_drewN | apply below_drew1) | exact HB.out)) hb); clear HB; have HO141 := n0_; have HB := n1_; clear n0_ n1_; (try clear hb); (try clear hb2); (try clear hk); (try clear hi); (try clear ho0))))
              go_loopg [9, 10] kj8 (fun kq v9 v10 w' => ∃ (x9_3 : ByteArray) (x10_3 : Int), v9 = .string x9_3 ∧ v10 = .int .i64 x10_3 ∧ Aside0 (counterpanelaw6_LexBlanks.l0 kq t136 x1_8 true t137 x9_3 x10_3 = some r) ∧ Aside0 (kq ≤ kj8) ∧ Aside0 (Kd.R k43 43 w' w.heap.size (fun _ => True) v140 t137) ∧ Aside0 (Below w.heap.size w w'))
              case atStart => exact ⟨((⟨#[]⟩ : ByteArray)), (0), (by first | rfl | (simp; done) | (simp [*]; done)), (by first | rfl | (simp; done) | (simp [*]; done)), H', ⟨Nat.le_refl _⟩, ⟨by (with_reducible repeat (first | apply Kd.R_alloc | apply Kd.R_drewN | apply Kd.R_drew)); exact HO141.out⟩, ⟨by repeat (first | (with_reducible first | exact HB.out | apply below_alloc | apply pw_below_drewN | apply below_drew1) | exact HB.out)⟩⟩
              case round =>
                clear H'
                try clear c1
                try clear p2
                try clear c4
                try clear c6
                try clear c8
                try clear c8b0
                try clear c10
                try clear c12
                try clear p2
                obtain ⟨x9_3, x10_3, rfl, rfl, HA, HK3, HO_6, HB⟩ := hrel
                cases gk with
                | zero => exact absurd HA.out (by simp [counterpanelaw6_LexBlanks.l0])
                | succ k3 =>
                  have H := HA.out
                  clear HA
                  simp only [counterpanelaw6_LexBlanks.l0] at H
                  by_cases c14 : (wrap64 (x10_3 + 1)) < (t137.length : Int)
                  · rw [if_pos c14] at H
                    have c14b0 : decide ((wrap64 (x10_3 + 1)) < (t137.length : Int)) = true := decide_eq_true c14
                    clear c14
                    by_cases c15 : 0 ≤ x10_3
                    · rw [if_pos c15] at H
                      have c15b0 : decide (0 ≤ x10_3) = true := decide_eq_true c15
                      clear c15
                      by_cases c16 : x10_3 < (t137.length : Int)
                      · rw [if_pos c16] at H
                        have c16b0 : decide (x10_3 < (t137.length : Int)) = true := decide_eq_true c16
                        clear c16
                        obtain ⟨ji17, hji17⟩ : ∃ j_ : Int, (wrap64 (x10_3 + 1)) = j_ := ⟨_, rfl⟩
                        replace H : (if 0 ≤ (ji17) then (if 0 ≤ ((rd_T43 t137 x10_3).f2) then (if ((rd_T43 t137 x10_3).f2) ≤ ((rd_T43 t137 (ji17)).f2) then (if ((rd_T43 t137 (ji17)).f2) ≤ (t136.size : Int) then (if x9_3.size + (t136.extract (((rd_T43 t137 x10_3).f2) : Int).toNat (((rd_T43 t137 (ji17)).f2) : Int).toNat).size ≤ 9223372036854775807 then (if ((rd_T43 t137 x10_3).f0) = 4 then (counterpanelaw6_LexBlanks.l0 k3 t136 x1_8 true t137 (x9_3 ++ (t136.extract (((rd_T43 t137 x10_3).f2) : Int).toNat (((rd_T43 t137 (ji17)).f2) : Int).toNat)) ji17) else (if 0 ≤ x1_8 then (if x1_8 ≤ 3 then (if (x9_3 ++ (t136.extract (((rd_T43 t137 x10_3).f2) : Int).toNat (((rd_T43 t137 (ji17)).f2) : Int).toNat)).size + ((⟨#[32, 32, 32]⟩ : ByteArray).extract 0 (x1_8 : Int).toNat).size ≤ 9223372036854775807 then (counterpanelaw6_LexBlanks.l0 k3 t136 x1_8 true t137 ((x9_3 ++ (t136.extract (((rd_T43 t137 x10_3).f2) : Int).toNat (((rd_T43 t137 (ji17)).f2) : Int).toNat)) ++ ((⟨#[32, 32, 32]⟩ : ByteArray).extract 0 (x1_8 : Int).toNat)) ji17) else (none)) else (none)) else (none))) else (none)) else (none)) else (none)) else (none)) else (none)) = some r := by first | (rw [hji17] at H; exact H) | (simp only [hji17] at H ⊢; exact H)
                        (try rw [hji17] at c14b0)
                        have hji17w : (IntKind.i64.wrap (x10_3 + 1)) = ji17 := (i64_w _).trans hji17
                        by_cases c18 : 0 ≤ (ji17)
                        · rw [if_pos c18] at H
                          have c18b0 : decide (0 ≤ (ji17)) = true := decide_eq_true c18
                          clear c18
                          by_cases c19 : 0 ≤ ((rd_T43 t137 x10_3).f2)
                          · rw [if_pos c19] at H
                            have c19b0 := eq_true c19
                            have c19b1 : decide (0 ≤ ((rd_T43 t137 x10_3).f2)) = true := decide_eq_true c19
                            clear c19
                            by_cases c20 : ((rd_T43 t137 x10_3).f2) ≤ ((rd_T43 t137 (ji17)).f2)
                            · rw [if_pos c20] at H
                              have c20b0 := eq_true c20
                              have c20b1 : decide (((rd_T43 t137 x10_3).f2) ≤ ((rd_T43 t137 (ji17)).f2)) = true := decide_eq_true c20
                              clear c20
                              by_cases c21 : ((rd_T43 t137 (ji17)).f2) ≤ (t136.size : Int)
                              · rw [if_pos c21] at H
                                have c21b0 := eq_true c21
                                have c21b1 : decide (((rd_T43 t137 (ji17)).f2) ≤ (t136.size : Int)) = true := decide_eq_true c21
                                clear c21
                                by_cases c22 : x9_3.size + (t136.extract (((rd_T43 t137 x10_3).f2) : Int).toNat (((rd_T43 t137 (ji17)).f2) : Int).toNat).size ≤ 9223372036854775807
                                · rw [if_pos c22] at H
                                  have c22b0 := eq_true c22
                                  have c22b1 : decide (x9_3.size + (t136.extract (((rd_T43 t137 x10_3).f2) : Int).toNat (((rd_T43 t137 (ji17)).f2) : Int).toNat).size ≤ 9223372036854775807) = true := decide_eq_true c22
                                  try (have c22b1z := c22b1; simp only [ByteArray.size_extract, Nat.min_self] at c22b1z)
                                  try (have c22b1y := eq_true (of_decide_eq_true c22b1); simp only [ByteArray.size_extract, Nat.min_self] at c22b1y)
                                  try have c22b2 : (9223372036854775807 < x9_3.size + (t136.extract (((rd_T43 t137 x10_3).f2) : Int).toNat (((rd_T43 t137 (ji17)).f2) : Int).toNat).size) = False := eq_false (Nat.not_lt.2 c22)
                                  by_cases c23 : ((rd_T43 t137 x10_3).f0) = 4
                                  · rw [if_pos c23] at H
                                    have c23b0 : (((rd_T43 t137 x10_3).f0) == 4) = true := beq_iff_eq.mpr c23
                                    have c23b1 : (((rd_T43 t137 x10_3).f0) != 4) = false := bne_eq_false_iff_eq.mpr c23
                                    clear c23
                                    have H' := Aside0.mk H
                                    clear H
                                    obtain ⟨Ao24, co24, eo24⟩ := Kd.R_slice HO_6.out
                                    subst eo24
                                    have p142 : 0 ≤ (x10_3 : Int) := of_decide_eq_true (by first | (with_reducible assumption) | assumption)
                                    have q142 : x10_3 < (t137.length : Int) := of_decide_eq_true (by first | (with_reducible assumption) | assumption)
                                    obtain ⟨ad142, e142, hx142_0, hx142_1, hx142_2⟩ := at_T43 (Kd.R_reads' HO_6.out).2.2 x10_3 p142 q142
                                    cases e142
                                    replace p142 := eq_true p142
                                    replace q142 := eq_true q142
                                    try (have q142z := q142; simp only [ByteArray.size_extract, Nat.min_self] at q142z)
                                    have p143 : 0 ≤ ((ji17) : Int) := of_decide_eq_true (by first | (with_reducible assumption) | assumption)
                                    have q143 : (ji17) < (t137.length : Int) := of_decide_eq_true (by first | (with_reducible assumption) | assumption)
                                    obtain ⟨ad143, e143, hx143_0, hx143_1, hx143_2⟩ := at_T43 (Kd.R_reads' HO_6.out).2.2 (ji17) p143 q143
                                    obtain rfl : ad142 = ad143 := (by injection e143)
                                    replace p143 := eq_true p143
                                    replace q143 := eq_true q143
                                    try (have q143z := q143; simp only [ByteArray.size_extract, Nat.min_self] at q143z)
                                    have p144 : 0 ≤ (x10_3 : Int) := of_decide_eq_true (by first | (with_reducible assumption) | assumption)
                                    have q144 : x10_3 < (t137.length : Int) := of_decide_eq_true (by first | (with_reducible assumption) | assumption)
                                    obtain ⟨ad144, e144, hx144_0, hx144_1, hx144_2⟩ := at_T43 (Kd.R_reads' HO_6.out).2.2 x10_3 p144 q144
                                    obtain rfl : ad142 = ad144 := (by injection e144)
                                    replace p144 := eq_true p144
                                    replace q144 := eq_true q144
                                    try (have q144z := q144; simp only [ByteArray.size_extract, Nat.min_self] at q144z)
                                    go_wp2
                                    repeat (go_quiet (fail); try go_wp2)
                                    go_roundg k3
                                    case measure => have := HJ5.out; have := HJ8.out; have := HK3.out; omega
                                    case rel => exact ⟨(x9_3 ++ (t136.extract (((rd_T43 t137 x10_3).f2) : Int).toNat (((rd_T43 t137 (ji17)).f2) : Int).toNat)), (ji17), (by first | rfl | (simp; done) | (simp only [← hji17] <;> (first | rfl | simp)) | (simp [*]; done)), (by first | rfl | (simp; done) | (simp only [← hji17] <;> (first | rfl | simp)) | (simp [*]; done)), H', ⟨by have := HJ5.out; have := HJ8.out; have := HK3.out; omega⟩, ⟨by (with_reducible repeat (first | apply Kd.R_alloc | apply Kd.R_drewN | apply Kd.R_drew)); exact HO_6.out⟩, ⟨by repeat (first | (with_reducible first | exact HB.out | apply below_alloc | apply pw_below_drewN | apply below_drew1) | exact HB.out)⟩⟩
                                  · rw [if_neg c23] at H
                                    have c23b0 : (((rd_T43 t137 x10_3).f0) == 4) = false := beq_eq_false_iff_ne.mpr c23
                                    have c23b1 : (((rd_T43 t137 x10_3).f0) != 4) = true := bne_iff_ne.mpr c23
                                    by_cases c25 : 0 ≤ x1_8
                                    · rw [if_pos c25] at H
                                      have c25b0 := eq_true c25
                                      have c25b1 : decide (0 ≤ x1_8) = true := decide_eq_true c25
                                      clear c25
                                      by_cases c26 : x1_8 ≤ 3
                                      · rw [if_pos c26] at H
                                        have c26b0 := eq_true c26
                                        have c26b1 : decide (x1_8 ≤ 3) = true := decide_eq_true c26
                                        clear c26
                                        by_cases c27 : (x9_3 ++ (t136.extract (((rd_T43 t137 x10_3).f2) : Int).toNat (((rd_T43 t137 (ji17)).f2) : Int).toNat)).size + ((⟨#[32, 32, 32]⟩ : ByteArray).extract 0 (x1_8 : Int).toNat).size ≤ 9223372036854775807
                                        · rw [if_pos c27] at H
                                          have c27b0 := eq_true c27
                                          have c27b1 : decide ((x9_3 ++ (t136.extract (((rd_T43 t137 x10_3).f2) : Int).toNat (((rd_T43 t137 (ji17)).f2) : Int).toNat)).size + ((⟨#[32, 32, 32]⟩ : ByteArray).extract 0 (x1_8 : Int).toNat).size ≤ 9223372036854775807) = true := decide_eq_true c27
                                          try (have c27b1z := c27b1; simp only [ByteArray.size_extract, Nat.min_self] at c27b1z)
                                          try (have c27b1y := eq_true (of_decide_eq_true c27b1); simp only [ByteArray.size_extract, Nat.min_self] at c27b1y)
                                          try have c27b2 : (9223372036854775807 < (x9_3 ++ (t136.extract (((rd_T43 t137 x10_3).f2) : Int).toNat (((rd_T43 t137 (ji17)).f2) : Int).toNat)).size + ((⟨#[32, 32, 32]⟩ : ByteArray).extract 0 (x1_8 : Int).toNat).size) = False := eq_false (Nat.not_lt.2 c27)
                                          try (have c27b3 := c27b2; simp only [ByteArray.size_append] at c27b3)
                                          try (have c27b4 := c27b3; simp only [show (⟨#[32, 32, 32]⟩ : ByteArray).size = 3 from rfl] at c27b4)
                                          have H' := Aside0.mk H
                                          clear H
                                          obtain ⟨Ao28, co28, eo28⟩ := Kd.R_slice HO_6.out
                                          subst eo28
                                          have p142 : 0 ≤ (x10_3 : Int) := of_decide_eq_true (by first | (with_reducible assumption) | assumption)
                                          have q142 : x10_3 < (t137.length : Int) := of_decide_eq_true (by first | (with_reducible assumption) | assumption)
                                          obtain ⟨ad142, e142, hx142_0, hx142_1, hx142_2⟩ := at_T43 (Kd.R_reads' HO_6.out).2.2 x10_3 p142 q142
                                          cases e142
                                          replace p142 := eq_true p142
                                          replace q142 := eq_true q142
                                          try (have q142z := q142; simp only [ByteArray.size_extract, Nat.min_self] at q142z)
                                          have p143 : 0 ≤ ((ji17) : Int) := of_decide_eq_true (by first | (with_reducible assumption) | assumption)
                                          have q143 : (ji17) < (t137.length : Int) := of_decide_eq_true (by first | (with_reducible assumption) | assumption)
                                          obtain ⟨ad143, e143, hx143_0, hx143_1, hx143_2⟩ := at_T43 (Kd.R_reads' HO_6.out).2.2 (ji17) p143 q143
                                          obtain rfl : ad142 = ad143 := (by injection e143)
                                          replace p143 := eq_true p143
                                          replace q143 := eq_true q143
                                          try (have q143z := q143; simp only [ByteArray.size_extract, Nat.min_self] at q143z)
                                          have p144 : 0 ≤ (x10_3 : Int) := of_decide_eq_true (by first | (with_reducible assumption) | assumption)
                                          have q144 : x10_3 < (t137.length : Int) := of_decide_eq_true (by first | (with_reducible assumption) | assumption)
                                          obtain ⟨ad144, e144, hx144_0, hx144_1, hx144_2⟩ := at_T43 (Kd.R_reads' HO_6.out).2.2 x10_3 p144 q144
                                          obtain rfl : ad142 = ad144 := (by injection e144)
                                          replace p144 := eq_true p144
                                          replace q144 := eq_true q144
                                          try (have q144z := q144; simp only [ByteArray.size_extract, Nat.min_self] at q144z)
                                          go_wp2
                                          repeat (go_quiet (fail); try go_wp2)
                                          go_roundg k3
                                          case measure => have := HJ5.out; have := HJ8.out; have := HK3.out; omega
                                          case rel => exact ⟨((x9_3 ++ (t136.extract (((rd_T43 t137 x10_3).f2) : Int).toNat (((rd_T43 t137 (ji17)).f2) : Int).toNat)) ++ ((⟨#[32, 32, 32]⟩ : ByteArray).extract 0 (x1_8 : Int).toNat)), (ji17), (by first | rfl | (simp; done) | (simp only [← hji17] <;> (first | rfl | simp)) | (simp [*]; done)), (by first | rfl | (simp; done) | (simp only [← hji17] <;> (first | rfl | simp)) | (simp [*]; done)), H', ⟨by have := HJ5.out; have := HJ8.out; have := HK3.out; omega⟩, ⟨by (with_reducible repeat (first | apply Kd.R_alloc | apply Kd.R_drewN | apply Kd.R_drew)); exact HO_6.out⟩, ⟨by repeat (first | (with_reducible first | exact HB.out | apply below_alloc | apply pw_below_drewN | apply below_drew1) | exact HB.out)⟩⟩
                                        · rw [if_neg c27] at H
                                          exact absurd H (by simp)
                                      · rw [if_neg c26] at H
                                        exact absurd H (by simp)
                                    · rw [if_neg c25] at H
                                      exact absurd H (by simp)
                                · rw [if_neg c22] at H
                                  exact absurd H (by simp)
                              · rw [if_neg c21] at H
                                exact absurd H (by simp)
                            · rw [if_neg c20] at H
                              exact absurd H (by simp)
                          · rw [if_neg c19] at H
                            exact absurd H (by simp)
                        · rw [if_neg c18] at H
                          exact absurd H (by simp)
                      · rw [if_neg c16] at H
                        exact absurd H (by simp)
                    · rw [if_neg c15] at H
                      exact absurd H (by simp)
                  · rw [if_neg c14] at H
                    have c14b0 : decide ((wrap64 (x10_3 + 1)) < (t137.length : Int)) = false := decide_eq_false c14
                    clear c14
                    replace H := Option.bind_eq_some_iff.mp H
                    obtain ⟨⟨t145, t146, t147⟩, A290, H⟩ := H
                    replace H : (if t147 = true then (counterpanelaw6_LexBlanks.j3 k3 true t137 t145 ((t145.length : Int) != (t137.length : Int))) else (counterpanelaw6_LexBlanks.j3 k3 true t137 t145 true)) = some r := H
                    have A29 := Aside0.mk A290
                    clear A290
                    have HC30 := Aside0.mk H
                    clear H
                    obtain ⟨Ao31, co31, eo31⟩ := Kd.R_slice HO_6.out
                    subst eo31
                    go_upto_region 18 with (first | (go_at_call 24; (with_reducible refine (lex_Scan.calls (hL := ⟨by first | exact hL.out | (refine hL.out.drawn ?_; (repeat (first | exact Drawn0.refl _ | apply Drawn0.step)); done) | (refine hL.out.below ?_; (repeat (first | (with_reducible first | exact HB.out | apply below_alloc | apply pw_below_drewN | apply below_drew1) | exact HB.out)); done)⟩) k3 x9_3 t145 t146 t147 _ A29.out).mono ?_); rintro e w32 ⟨v148, rfl, ho0, hb⟩; have n0_ := Aside0.mk (Kd.R_elder' (by (with_reducible repeat (first | apply Kd.R_alloc | apply Kd.R_drewN | apply Kd.R_drew)); exact HO_6.out) (Kd.R_base ho0) hb); have n1_ := Aside0.mk (Kd.R_lower (Kd.R_new' ho0 (Kd.R_lt (by (with_reducible repeat (first | apply Kd.R_alloc | apply Kd.R_drewN | apply Kd.R_drew)); exact HO_6.out))) (below_size (by repeat (first | (with_reducible first | exact HB.out | apply below_alloc | apply pw_below_drewN | apply below_drew1) | exact HB.out)))); have n2_ := Aside0.mk (below_step (by repeat (first | (with_reducible first | exact HB.out | apply below_alloc | apply pw_below_drewN | apply below_drew1) | exact HB.out)) hb); clear HO_6; clear HB; have HO_6 := n0_; have HO149 := n1_; have HB := n2_; clear n0_ n1_ n2_; (try clear hb); (try clear hb2); (try clear hk); (try clear hi); (try clear ho0)))
                    repeat (go_quiet (first | (go_at_call 24; (with_reducible refine (lex_Scan.calls (hL := ⟨by first | exact hL.out | (refine hL.out.drawn ?_; (repeat (first | exact Drawn0.refl _ | apply Drawn0.step)); done) | (refine hL.out.below ?_; (repeat (first | (with_reducible first | exact HB.out | apply below_alloc | apply pw_below_drewN | apply below_drew1) | exact HB.out)); done)⟩) k3 x9_3 t145 t146 t147 _ A29.out).mono ?_); rintro e w32 ⟨v148, rfl, ho0, hb⟩; have n0_ := Aside0.mk (Kd.R_elder' (by (with_reducible repeat (first | apply Kd.R_alloc | apply Kd.R_drewN | apply Kd.R_drew)); exact HO_6.out) (Kd.R_base ho0) hb); have n1_ := Aside0.mk (Kd.R_lower (Kd.R_new' ho0 (Kd.R_lt (by (with_reducible repeat (first | apply Kd.R_alloc | apply Kd.R_drewN | apply Kd.R_drew)); exact HO_6.out))) (below_size (by repeat (first | (with_reducible first | exact HB.out | apply below_alloc | apply pw_below_drewN | apply below_drew1) | exact HB.out)))); have n2_ := Aside0.mk (below_step (by repeat (first | (with_reducible first | exact HB.out | apply below_alloc | apply pw_below_drewN | apply below_drew1) | exact HB.out)) hb); clear HO_6; clear HB; have HO_6 := n0_; have HO149 := n1_; have HB := n2_; clear n0_ n1_ n2_; (try clear hb); (try clear hb2); (try clear hk); (try clear hi); (try clear ho0))); go_upto_region 18 with (first | (go_at_call 24; (with_reducible refine (lex_Scan.calls (hL := ⟨by first | exact hL.out | (refine hL.out.drawn ?_; (repeat (first | exact Drawn0.refl _ | apply Drawn0.step)); done) | (refine hL.out.below ?_; (repeat (first | (with_reducible first | exact HB.out | apply below_alloc | apply pw_below_drewN | apply below_drew1) | exact HB.out)); done)⟩) k3 x9_3 t145 t146 t147 _ A29.out).mono ?_); rintro e w32 ⟨v148, rfl, ho0, hb⟩; have n0_ := Aside0.mk (Kd.R_elder' (by (with_reducible repeat (first | apply Kd.R_alloc | apply Kd.R_drewN | apply Kd.R_drew)); exact HO_6.out) (Kd.R_base ho0) hb); have n1_ := Aside0.mk (Kd.R_lower (Kd.R_new' ho0 (Kd.R_lt (by (with_reducible repeat (first | apply Kd.R_alloc | apply Kd.R_drewN | apply Kd.R_drew)); exact HO_6.out))) (below_size (by repeat (first | (with_reducible first | exact HB.out | apply below_alloc | apply pw_below_drewN | apply below_drew1) | exact HB.out)))); have n2_ := Aside0.mk (below_step (by repeat (first | (with_reducible first | exact HB.out | apply below_alloc | apply pw_below_drewN | apply below_drew1) | exact HB.out)) hb); clear HO_6; clear HB; have HO_6 := n0_; have HO149 := n1_; have HB := n2_; clear n0_ n1_ n2_; (try clear hb); (try clear hb2); (try clear hk); (try clear hi); (try clear ho0))))
                    (try simp only [Act.put, List.setIfInBounds_toArray, List.set_cons_zero, List.set_cons_succ])
                    go_cut [81] (fun v81 wc => ∃ (kq : Nat) (x81_29 : Bool), v81 = .bool x81_29 ∧ Aside0 (counterpanelaw6_LexBlanks.j3 kq true t137 t145 x81_29 = some r) ∧ Aside0 (kq ≤ k3) ∧ Aside0 (Kd.R k43 43 wc w.heap.size (fun k_ => some k_ ≠ (v148 : Value).ownBlock) (.slice Ao31 t137.length co31) t137) ∧ Aside0 (Kd.R k43 43 wc w.heap.size (fun k_ => some k_ ≠ ((.slice Ao31 t137.length co31) : Value).ownBlock) v148 t145) ∧ Aside0 (Below w.heap.size w wc))
                    case first =>
                      have H := HC30.out
                      clear HC30
                      by_cases c33 : t147 = true
                      · subst c33
                        have H1 : (counterpanelaw6_LexBlanks.j3 k3 true t137 t145 ((t145.length : Int) != (t137.length : Int))) = some r := by rw [if_pos rfl] at H; exact H
                        clear H
                        have H := H1
                        clear H1
                        have H' := Aside0.mk H
                        clear H
                        obtain ⟨Ao34, co34, eo34⟩ := Kd.R_slice HO149.out
                        subst eo34
                        go_wp2
                        repeat (go_quiet (fail); try go_wp2)
                        go_meet
                        case rel => exact ⟨_, (((t145.length : Int) != (t137.length : Int))), (by first | rfl | (simp; done) | (simp [*]; done)), H', ⟨by have := HJ5.out; have := HJ8.out; have := HK3.out; first | omega | exact Nat.le_refl _⟩, ⟨by (with_reducible repeat (first | apply Kd.R_alloc | apply Kd.R_drewN | apply Kd.R_drew)); exact Kd.R_mono HO_6.out (fun _ hk => hk.2)⟩, ⟨by (with_reducible repeat (first | apply Kd.R_alloc | apply Kd.R_drewN | apply Kd.R_drew)); exact Kd.R_mono HO149.out (fun _ hk => hk.2)⟩, ⟨by repeat (first | (with_reducible first | exact HB.out | apply below_alloc | apply pw_below_drewN | apply below_drew1) | exact HB.out)⟩⟩
                      · replace c33 := Bool.eq_false_iff.mpr c33
                        subst c33
                        have H1 : (counterpanelaw6_LexBlanks.j3 k3 true t137 t145 true) = some r := by rw [if_neg (show ¬ (false = true) by decide)] at H; exact H
                        clear H
                        have H := H1
                        clear H1
                        have H' := Aside0.mk H
                        clear H
                        go_wp2
                        repeat (go_quiet (fail); try go_wp2)
                        go_meet
                        case rel => exact ⟨_, (true), (by first | rfl | (simp; done) | (simp [*]; done)), H', ⟨by have := HJ5.out; have := HJ8.out; have := HK3.out; first | omega | exact Nat.le_refl _⟩, ⟨by (with_reducible repeat (first | apply Kd.R_alloc | apply Kd.R_drewN | apply Kd.R_drew)); exact Kd.R_mono HO_6.out (fun _ hk => hk.2)⟩, ⟨by (with_reducible repeat (first | apply Kd.R_alloc | apply Kd.R_drewN | apply Kd.R_drew)); exact Kd.R_mono HO149.out (fun _ hk => hk.2)⟩, ⟨by repeat (first | (with_reducible first | exact HB.out | apply below_alloc | apply pw_below_drewN | apply below_drew1) | exact HB.out)⟩⟩
                    case rest =>
                      clear HC30
                      try clear c1
                      try clear p1
                      try clear q1
                      try clear hx1
                      try clear c2
                      try clear p2
                      try clear c3
                      try clear c4
                      try clear c6
                      try clear p6
                      try clear c8
                      try clear c8b0
                      try clear c10
                      try clear c12
                      try clear c14
                      try clear c14b0
                      try clear p14
                      try clear q14
                      try clear hx14
                      try clear c15
                      try clear c15b0
                      try clear c16
                      try clear c16b0
                      try clear c18
                      try clear c18b0
                      try clear c19
                      try clear c19b0
                      try clear c19b1
                      try clear c20
                      try clear c20b0
                      try clear c20b1
                      try clear c21
                      try clear c21b0
                      try clear c21b1
                      try clear c22
                      try clear c22b0
                      try clear c22b1
                      try clear c22b2
                      try clear c23
                      try clear c23b0
                      try clear c23b1
                      try clear c25
                      try clear c25b0
                      try clear c25b1
                      try clear c26
                      try clear c26b0
                      try clear c26b1
                      try clear c27
                      try clear c27b0
                      try clear c27b1
                      try clear c27b2
                      try clear c33
                      try clear hx142_0
                      try clear hx142_1
                      try clear hx142_2
                      try clear hx143_0
                      try clear hx143_1
                      try clear hx143_2
                      try clear hx144_0
                      try clear hx144_1
                      try clear hx144_2
                      try clear p142
                      try clear p143
                      try clear p144
                      try clear p2
                      try clear q142
                      try clear q143
                      try clear q144
                      obtain ⟨kq, x81_29, rfl, HA, HJ29, HO_6, HO_11, HB⟩ := hcut
                      cases kq with
                      | zero => exact absurd HA.out (by simp [counterpanelaw6_LexBlanks.j3])
                      | succ kj29 =>
                        have H := HA.out
                        clear HA
                        simp only [counterpanelaw6_LexBlanks.j3] at H
                        by_cases c35 : x81_29 = true
                        · subst c35
                          have H1 : (some false) = some r := by rw [if_pos rfl] at H; exact H
                          clear H
                          have H := H1
                          clear H1
                          obtain rfl := Option.some.inj H
                          go_wp2
                          repeat (go_quiet (fail); try go_wp2)
                          go_ret
                          exact ⟨by first | rfl | (simp [errW_none, errW_some] <;> rfl) | (simp [*, errW_none, errW_some] <;> rfl) | (simp [*, errW_none, errW_some] <;> (generalize ByteArray.toList _ = l_; cases l_ <;> rfl)), by repeat (first | (with_reducible first | exact HB.out | apply below_alloc | apply pw_below_drewN | apply below_drew1) | exact HB.out)⟩
                        · replace c35 := Bool.eq_false_iff.mpr c35
                          subst c35
                          have H1 : (counterpanelaw6_LexBlanks.l1 kj29 true t137 t145 0) = some r := by rw [if_neg (show ¬ (false = true) by decide)] at H; exact H
                          clear H
                          have H := H1
                          clear H1
                          have H' := Aside0.mk H
                          clear H
                          go_wp2
                          repeat (go_quiet (fail); try go_wp2)
                          go_loopg [14] kj29 (fun kq v14 w' => ∃ (x14_5 : Int), v14 = .int .i64 x14_5 ∧ Aside0 (counterpanelaw6_LexBlanks.l1 kq true t137 t145 x14_5 = some r) ∧ Aside0 (kq ≤ kj29) ∧ Aside0 (Kd.R k43 43 w' w.heap.size (fun k_ => some k_ ≠ (v148 : Value).ownBlock) (.slice Ao31 t137.length co31) t137) ∧ Aside0 (Kd.R k43 43 w' w.heap.size (fun k_ => some k_ ≠ ((.slice Ao31 t137.length co31) : Value).ownBlock) v148 t145) ∧ Aside0 (Below w.heap.size w w'))
                          case atStart => exact ⟨(0), (by first | rfl | (simp; done) | (simp [*]; done)), H', ⟨Nat.le_refl _⟩, ⟨by (with_reducible repeat (first | apply Kd.R_alloc | apply Kd.R_drewN | apply Kd.R_drew)); exact HO_6.out⟩, ⟨by (with_reducible repeat (first | apply Kd.R_alloc | apply Kd.R_drewN | apply Kd.R_drew)); exact HO_11.out⟩, ⟨by repeat (first | (with_reducible first | exact HB.out | apply below_alloc | apply pw_below_drewN | apply below_drew1) | exact HB.out)⟩⟩
                          case round =>
                            clear H'
                            try clear c1
                            try clear p1
                            try clear q1
                            try clear hx1
                            try clear c2
                            try clear p2
                            try clear c3
                            try clear c4
                            try clear c6
                            try clear p6
                            try clear c8
                            try clear c8b0
                            try clear c10
                            try clear c12
                            try clear c14
                            try clear c14b0
                            try clear p14
                            try clear q14
                            try clear hx14
                            try clear c15
                            try clear c15b0
                            try clear c16
                            try clear c16b0
                            try clear c18
                            try clear c18b0
                            try clear c19
                            try clear c19b0
                            try clear c19b1
                            try clear c20
                            try clear c20b0
                            try clear c20b1
                            try clear c21
                            try clear c21b0
                            try clear c21b1
                            try clear c22
                            try clear c22b0
                            try clear c22b1
                            try clear c22b2
                            try clear c23
                            try clear c23b0
                            try clear c23b1
                            try clear c25
                            try clear c25b0
                            try clear c25b1
                            try clear c26
                            try clear c26b0
                            try clear c26b1
                            try clear c27
                            try clear c27b0
                            try clear c27b1
                            try clear c27b2
                            try clear c33
                            try clear c35
                            try clear hx142_0
                            try clear hx142_1
                            try clear hx142_2
                            try clear hx143_0
                            try clear hx143_1
                            try clear hx143_2
                            try clear hx144_0
                            try clear hx144_1
                            try clear hx144_2
                            try clear p1
                            try clear p14
                            try clear p142
                            try clear p143
                            try clear p144
                            try clear p2
                            try clear p6
                            try clear q1
                            try clear q14
                            try clear q142
                            try clear q143
                            try clear q144
                            obtain ⟨x14_5, rfl, HA, HK5, HO_6, HO_11, HB⟩ := hrel
                            cases gk with
                            | zero => exact absurd HA.out (by simp [counterpanelaw6_LexBlanks.l1])
                            | succ k5 =>
                              have H := HA.out
                              clear HA
                              simp only [counterpanelaw6_LexBlanks.l1] at H
                              by_cases c36 : x14_5 < (t137.length : Int)
                              · rw [if_pos c36] at H
                                have c36b0 : decide (x14_5 < (t137.length : Int)) = true := decide_eq_true c36
                                clear c36
                                by_cases c37 : 0 ≤ x14_5
                                · rw [if_pos c37] at H
                                  have c37b0 : decide (0 ≤ x14_5) = true := decide_eq_true c37
                                  clear c37
                                  by_cases c38 : x14_5 < (t145.length : Int)
                                  · rw [if_pos c38] at H
                                    have c38b0 : decide (x14_5 < (t145.length : Int)) = true := decide_eq_true c38
                                    clear c38
                                    by_cases c39 : ((rd_T43 t137 x14_5).f0) = ((rd_T43 t145 x14_5).f0)
                                    · rw [if_pos c39] at H
                                      have c39b0 : (((rd_T43 t137 x14_5).f0) == ((rd_T43 t145 x14_5).f0)) = true := beq_iff_eq.mpr c39
                                      have c39b1 : (((rd_T43 t137 x14_5).f0) != ((rd_T43 t145 x14_5).f0)) = false := bne_eq_false_iff_eq.mpr c39
                                      clear c39
                                      by_cases c40 : ((rd_T43 t137 x14_5).f1).toList = ((rd_T43 t145 x14_5).f1).toList
                                      · rw [if_pos c40] at H
                                        have c40b0 : (((rd_T43 t137 x14_5).f1).toList == ((rd_T43 t145 x14_5).f1).toList) = true := beq_iff_eq.mpr c40
                                        have c40b1 : (((rd_T43 t137 x14_5).f1).toList != ((rd_T43 t145 x14_5).f1).toList) = false := bne_eq_false_iff_eq.mpr c40
                                        clear c40
                                        have H' := Aside0.mk H
                                        clear H
                                        have p150 : 0 ≤ (x14_5 : Int) := of_decide_eq_true (by first | (with_reducible assumption) | assumption)
                                        have q150 : x14_5 < (t137.length : Int) := of_decide_eq_true (by first | (with_reducible assumption) | assumption)
                                        obtain ⟨ad150, e150, hx150_0, hx150_1, hx150_2⟩ := at_T43 (Kd.R_reads' HO_6.out).2.2 x14_5 p150 q150
                                        cases e150
                                        replace p150 := eq_true p150
                                        replace q150 := eq_true q150
                                        try (have q150z := q150; simp only [ByteArray.size_extract, Nat.min_self] at q150z)
                                        obtain ⟨Ao41, co41, eo41⟩ := Kd.R_slice HO_11.out
                                        subst eo41
                                        have p151 : 0 ≤ (x14_5 : Int) := of_decide_eq_true (by first | (with_reducible assumption) | assumption)
                                        have q151 : x14_5 < (t145.length : Int) := of_decide_eq_true (by first | (with_reducible assumption) | assumption)
                                        obtain ⟨ad151, e151, hx151_0, hx151_1, hx151_2⟩ := at_T43 (Kd.R_reads' HO_11.out).2.2 x14_5 p151 q151
                                        cases e151
                                        replace p151 := eq_true p151
                                        replace q151 := eq_true q151
                                        try (have q151z := q151; simp only [ByteArray.size_extract, Nat.min_self] at q151z)
                                        have p152 : 0 ≤ (x14_5 : Int) := of_decide_eq_true (by first | (with_reducible assumption) | assumption)
                                        have q152 : x14_5 < (t137.length : Int) := of_decide_eq_true (by first | (with_reducible assumption) | assumption)
                                        obtain ⟨ad152, e152, hx152_0, hx152_1, hx152_2⟩ := at_T43 (Kd.R_reads' HO_6.out).2.2 x14_5 p152 q152
                                        obtain rfl : ad150 = ad152 := (by injection e152)
                                        replace p152 := eq_true p152
                                        replace q152 := eq_true q152
                                        try (have q152z := q152; simp only [ByteArray.size_extract, Nat.min_self] at q152z)
                                        have p153 : 0 ≤ (x14_5 : Int) := of_decide_eq_true (by first | (with_reducible assumption) | assumption)
                                        have q153 : x14_5 < (t145.length : Int) := of_decide_eq_true (by first | (with_reducible assumption) | assumption)
                                        obtain ⟨ad153, e153, hx153_0, hx153_1, hx153_2⟩ := at_T43 (Kd.R_reads' HO_11.out).2.2 x14_5 p153 q153
                                        obtain rfl : ad151 = ad153 := (by injection e153)
                                        replace p153 := eq_true p153
                                        replace q153 := eq_true q153
                                        try (have q153z := q153; simp only [ByteArray.size_extract, Nat.min_self] at q153z)
                                        go_wp2
                                        repeat (go_quiet (fail); try go_wp2)
                                        go_roundg k5
                                        case measure => have := HJ5.out; have := HJ8.out; have := HK3.out; have := HJ29.out; have := HK5.out; omega
                                        case rel => exact ⟨(wrap64 (x14_5 + 1)), (by first | rfl | (simp; done) | (simp [*]; done)), H', ⟨by have := HJ5.out; have := HJ8.out; have := HK3.out; have := HJ29.out; have := HK5.out; omega⟩, ⟨by (with_reducible repeat (first | apply Kd.R_alloc | apply Kd.R_drewN | apply Kd.R_drew)); exact HO_6.out⟩, ⟨by (with_reducible repeat (first | apply Kd.R_alloc | apply Kd.R_drewN | apply Kd.R_drew)); exact HO_11.out⟩, ⟨by repeat (first | (with_reducible first | exact HB.out | apply below_alloc | apply pw_below_drewN | apply below_drew1) | exact HB.out)⟩⟩
                                      · rw [if_neg c40] at H
                                        have c40b0 : (((rd_T43 t137 x14_5).f1).toList == ((rd_T43 t145 x14_5).f1).toList) = false := beq_eq_false_iff_ne.mpr c40
                                        have c40b1 : (((rd_T43 t137 x14_5).f1).toList != ((rd_T43 t145 x14_5).f1).toList) = true := bne_iff_ne.mpr c40
                                        obtain rfl := Option.some.inj H
                                        have p150 : 0 ≤ (x14_5 : Int) := of_decide_eq_true (by first | (with_reducible assumption) | assumption)
                                        have q150 : x14_5 < (t137.length : Int) := of_decide_eq_true (by first | (with_reducible assumption) | assumption)
                                        obtain ⟨ad150, e150, hx150_0, hx150_1, hx150_2⟩ := at_T43 (Kd.R_reads' HO_6.out).2.2 x14_5 p150 q150
                                        cases e150
                                        replace p150 := eq_true p150
                                        replace q150 := eq_true q150
                                        try (have q150z := q150; simp only [ByteArray.size_extract, Nat.min_self] at q150z)
                                        obtain ⟨Ao42, co42, eo42⟩ := Kd.R_slice HO_11.out
                                        subst eo42
                                        have p151 : 0 ≤ (x14_5 : Int) := of_decide_eq_true (by first | (with_reducible assumption) | assumption)
                                        have q151 : x14_5 < (t145.length : Int) := of_decide_eq_true (by first | (with_reducible assumption) | assumption)
                                        obtain ⟨ad151, e151, hx151_0, hx151_1, hx151_2⟩ := at_T43 (Kd.R_reads' HO_11.out).2.2 x14_5 p151 q151
                                        cases e151
                                        replace p151 := eq_true p151
                                        replace q151 := eq_true q151
                                        try (have q151z := q151; simp only [ByteArray.size_extract, Nat.min_self] at q151z)
                                        have p152 : 0 ≤ (x14_5 : Int) := of_decide_eq_true (by first | (with_reducible assumption) | assumption)
                                        have q152 : x14_5 < (t137.length : Int) := of_decide_eq_true (by first | (with_reducible assumption) | assumption)
                                        obtain ⟨ad152, e152, hx152_0, hx152_1, hx152_2⟩ := at_T43 (Kd.R_reads' HO_6.out).2.2 x14_5 p152 q152
                                        obtain rfl : ad150 = ad152 := (by injection e152)
                                        replace p152 := eq_true p152
                                        replace q152 := eq_true q152
                                        try (have q152z := q152; simp only [ByteArray.size_extract, Nat.min_self] at q152z)
                                        have p153 : 0 ≤ (x14_5 : Int) := of_decide_eq_true (by first | (with_reducible assumption) | assumption)
                                        have q153 : x14_5 < (t145.length : Int) := of_decide_eq_true (by first | (with_reducible assumption) | assumption)
                                        obtain ⟨ad153, e153, hx153_0, hx153_1, hx153_2⟩ := at_T43 (Kd.R_reads' HO_11.out).2.2 x14_5 p153 q153
                                        obtain rfl : ad151 = ad153 := (by injection e153)
                                        replace p153 := eq_true p153
                                        replace q153 := eq_true q153
                                        try (have q153z := q153; simp only [ByteArray.size_extract, Nat.min_self] at q153z)
                                        go_wp2
                                        repeat (go_quiet (fail); try go_wp2)
                                        go_ret
                                        exact ⟨by first | rfl | (simp [errW_none, errW_some] <;> rfl) | (simp [*, errW_none, errW_some] <;> rfl) | (simp [*, errW_none, errW_some] <;> (generalize ByteArray.toList _ = l_; cases l_ <;> rfl)), by repeat (first | (with_reducible first | exact HB.out | apply below_alloc | apply pw_below_drewN | apply below_drew1) | exact HB.out)⟩
                                    · rw [if_neg c39] at H
                                      have c39b0 : (((rd_T43 t137 x14_5).f0) == ((rd_T43 t145 x14_5).f0)) = false := beq_eq_false_iff_ne.mpr c39
                                      have c39b1 : (((rd_T43 t137 x14_5).f0) != ((rd_T43 t145 x14_5).f0)) = true := bne_iff_ne.mpr c39
                                      obtain rfl := Option.some.inj H
                                      have p150 : 0 ≤ (x14_5 : Int) := of_decide_eq_true (by first | (with_reducible assumption) | assumption)
                                      have q150 : x14_5 < (t137.length : Int) := of_decide_eq_true (by first | (with_reducible assumption) | assumption)
                                      obtain ⟨ad150, e150, hx150_0, hx150_1, hx150_2⟩ := at_T43 (Kd.R_reads' HO_6.out).2.2 x14_5 p150 q150
                                      cases e150
                                      replace p150 := eq_true p150
                                      replace q150 := eq_true q150
                                      try (have q150z := q150; simp only [ByteArray.size_extract, Nat.min_self] at q150z)
                                      obtain ⟨Ao43, co43, eo43⟩ := Kd.R_slice HO_11.out
                                      subst eo43
                                      have p151 : 0 ≤ (x14_5 : Int) := of_decide_eq_true (by first | (with_reducible assumption) | assumption)
                                      have q151 : x14_5 < (t145.length : Int) := of_decide_eq_true (by first | (with_reducible assumption) | assumption)
                                      obtain ⟨ad151, e151, hx151_0, hx151_1, hx151_2⟩ := at_T43 (Kd.R_reads' HO_11.out).2.2 x14_5 p151 q151
                                      cases e151
                                      replace p151 := eq_true p151
                                      replace q151 := eq_true q151
                                      try (have q151z := q151; simp only [ByteArray.size_extract, Nat.min_self] at q151z)
                                      go_wp2
                                      repeat (go_quiet (fail); try go_wp2)
                                      go_ret
                                      exact ⟨by first | rfl | (simp [errW_none, errW_some] <;> rfl) | (simp [*, errW_none, errW_some] <;> rfl) | (simp [*, errW_none, errW_some] <;> (generalize ByteArray.toList _ = l_; cases l_ <;> rfl)), by repeat (first | (with_reducible first | exact HB.out | apply below_alloc | apply pw_below_drewN | apply below_drew1) | exact HB.out)⟩
                                  · rw [if_neg c38] at H
                                    exact absurd H (by simp)
                                · rw [if_neg c37] at H
                                  exact absurd H (by simp)
                              · rw [if_neg c36] at H
                                have c36b0 : decide (x14_5 < (t137.length : Int)) = false := decide_eq_false c36
                                clear c36
                                obtain rfl := Option.some.inj H
                                go_wp2
                                repeat (go_quiet (fail); try go_wp2)
                                go_ret
                                exact ⟨by first | rfl | (simp [errW_none, errW_some] <;> rfl) | (simp [*, errW_none, errW_some] <;> rfl) | (simp [*, errW_none, errW_some] <;> (generalize ByteArray.toList _ = l_; cases l_ <;> rfl)), by repeat (first | (with_reducible first | exact HB.out | apply below_alloc | apply pw_below_drewN | apply below_drew1) | exact HB.out)⟩
            · replace c12 := Bool.eq_false_iff.mpr c12
              subst c12
              have H1 : (some true) = some r := by rw [if_neg (show ¬ (false = true) by decide)] at H; exact H
              clear H
              have H := H1
              clear H1
              obtain rfl := Option.some.inj H
              go_wp2_with (first | (go_at_call 24; (with_reducible refine (lex_Scan.calls (hL := ⟨by first | exact hL.out | (refine hL.out.drawn ?_; (repeat (first | exact Drawn0.refl _ | apply Drawn0.step)); done) | (refine hL.out.below ?_; (repeat (first | (with_reducible first | exact HB.out | apply below_alloc | apply pw_below_drewN | apply below_drew1) | exact HB.out)); done)⟩) kj8 t136 t137 t138 false _ A11.out).mono ?_); rintro e w44 ⟨v140, rfl, ho0, hb⟩; have n0_ := Aside0.mk (Kd.R_lower ho0 (below_size (by repeat (first | (with_reducible first | exact HB.out | apply below_alloc | apply pw_below_drewN | apply below_drew1) | exact HB.out)))); have n1_ := Aside0.mk (below_step (by repeat (first | (with_reducible first | exact HB.out | apply below_alloc | apply pw_below_drewN | apply below_drew1) | exact HB.out)) hb); clear HB; have HO141 := n0_; have HB := n1_; clear n0_ n1_; (try clear hb); (try clear hb2); (try clear hk); (try clear hi); (try clear ho0)))
              repeat (go_quiet (first | (go_at_call 24; (with_reducible refine (lex_Scan.calls (hL := ⟨by first | exact hL.out | (refine hL.out.drawn ?_; (repeat (first | exact Drawn0.refl _ | apply Drawn0.step)); done) | (refine hL.out.below ?_; (repeat (first | (with_reducible first | exact HB.out | apply below_alloc | apply pw_below_drewN | apply below_drew1) | exact HB.out)); done)⟩) kj8 t136 t137 t138 false _ A11.out).mono ?_); rintro e w44 ⟨v140, rfl, ho0, hb⟩; have n0_ := Aside0.mk (Kd.R_lower ho0 (below_size (by repeat (first | (with_reducible first | exact HB.out | apply below_alloc | apply pw_below_drewN | apply below_drew1) | exact HB.out)))); have n1_ := Aside0.mk (below_step (by repeat (first | (with_reducible first | exact HB.out | apply below_alloc | apply pw_below_drewN | apply below_drew1) | exact HB.out)) hb); clear HB; have HO141 := n0_; have HB := n1_; clear n0_ n1_; (try clear hb); (try clear hb2); (try clear hk); (try clear hi); (try clear ho0))); try go_wp2_with (first | (go_at_call 24; (with_reducible refine (lex_Scan.calls (hL := ⟨by first | exact hL.out | (refine hL.out.drawn ?_; (repeat (first | exact Drawn0.refl _ | apply Drawn0.step)); done) | (refine hL.out.below ?_; (repeat (first | (with_reducible first | exact HB.out | apply below_alloc | apply pw_below_drewN | apply below_drew1) | exact HB.out)); done)⟩) kj8 t136 t137 t138 false _ A11.out).mono ?_); rintro e w44 ⟨v140, rfl, ho0, hb⟩; have n0_ := Aside0.mk (Kd.R_lower ho0 (below_size (by repeat (first | (with_reducible first | exact HB.out | apply below_alloc | apply pw_below_drewN | apply below_drew1) | exact HB.out)))); have n1_ := Aside0.mk (below_step (by repeat (first | (with_reducible first | exact HB.out | apply below_alloc | apply pw_below_drewN | apply below_drew1) | exact HB.out)) hb); clear HB; have HO141 := n0_; have HB := n1_; clear n0_ n1_; (try clear hb); (try clear hb2); (try clear hk); (try clear hi); (try clear ho0))))
              go_ret
              exact ⟨by first | rfl | (simp [errW_none, errW_some] <;> rfl) | (simp [*, errW_none, errW_some] <;> rfl) | (simp [*, errW_none, errW_some] <;> (generalize ByteArray.toList _ = l_; cases l_ <;> rfl)), by repeat (first | (with_reducible first | exact HB.out | apply below_alloc | apply pw_below_drewN | apply below_drew1) | exact HB.out)⟩
  · replace c4 := Bool.eq_false_iff.mpr c4
    subst c4
    have H1 : (some false) = some r := by rw [if_neg (show ¬ (false = true) by decide)] at H; exact H
    clear H
    have H := H1
    clear H1
    obtain rfl := Option.some.inj H
    go_enter Tryd.func6, Tryd.ntmps6
    go_wp2_with (first | (go_at_call 23; (with_reducible refine (counterpanelaw6_begun.calls (hL := ⟨by first | exact hL.out | (refine hL.out.drawn ?_; (repeat (first | exact Drawn0.refl _ | apply Drawn0.step)); done) | (refine hL.out.below ?_; (repeat (first | (with_reducible first | exact HB.out | apply below_alloc | apply pw_below_drewN | apply below_drew1) | exact HB.out)); done)⟩) k  false _ A3.out).mono ?_); rintro e w45 ⟨rfl, hb⟩; have n0_ := Aside0.mk (below_step (by repeat (first | (with_reducible first | exact HB.out | apply below_alloc | apply pw_below_drewN | apply below_drew1) | exact HB.out)) hb); clear HB; have HB := n0_; clear n0_; (try clear hb); (try clear hb2); (try clear hk); (try clear hi)))
    repeat (go_quiet (first | (go_at_call 23; (with_reducible refine (counterpanelaw6_begun.calls (hL := ⟨by first | exact hL.out | (refine hL.out.drawn ?_; (repeat (first | exact Drawn0.refl _ | apply Drawn0.step)); done) | (refine hL.out.below ?_; (repeat (first | (with_reducible first | exact HB.out | apply below_alloc | apply pw_below_drewN | apply below_drew1) | exact HB.out)); done)⟩) k  false _ A3.out).mono ?_); rintro e w45 ⟨rfl, hb⟩; have n0_ := Aside0.mk (below_step (by repeat (first | (with_reducible first | exact HB.out | apply below_alloc | apply pw_below_drewN | apply below_drew1) | exact HB.out)) hb); clear HB; have HB := n0_; clear n0_; (try clear hb); (try clear hb2); (try clear hk); (try clear hi))); try go_wp2_with (first | (go_at_call 23; (with_reducible refine (counterpanelaw6_begun.calls (hL := ⟨by first | exact hL.out | (refine hL.out.drawn ?_; (repeat (first | exact Drawn0.refl _ | apply Drawn0.step)); done) | (refine hL.out.below ?_; (repeat (first | (with_reducible first | exact HB.out | apply below_alloc | apply pw_below_drewN | apply below_drew1) | exact HB.out)); done)⟩) k  false _ A3.out).mono ?_); rintro e w45 ⟨rfl, hb⟩; have n0_ := Aside0.mk (below_step (by repeat (first | (with_reducible first | exact HB.out | apply below_alloc | apply pw_below_drewN | apply below_drew1) | exact HB.out)) hb); clear HB; have HB := n0_; clear n0_; (try clear hb); (try clear hb2); (try clear hk); (try clear hi))))
    go_ret
    exact ⟨by first | rfl | (simp [errW_none, errW_some] <;> rfl) | (simp [*, errW_none, errW_some] <;> rfl) | (simp [*, errW_none, errW_some] <;> (generalize ByteArray.toList _ = l_; cases l_ <;> rfl)), by repeat (first | (with_reducible first | exact HB.out | apply below_alloc | apply pw_below_drewN | apply below_drew1) | exact HB.out)⟩
end Go.Proofs.YtpabggjnkoehfaaDoor.ELex
end
section
namespace Go.Proofs.YtpabggjnkoehfaaDoor.LexR
open Go.RowKit Go.Lib Go.Proofs.YtpabggjnkoehfaaDoorW.PrintWords Go.Proofs.YtpabggjnkoehfaaDoor.ExtL Go.Proofs.YtpabggjnkoehfaaDoor.ELex Go.Proofs.YtpabggjnkoehfaaDoor.Lx
set_option linter.unusedVariables false
set_option linter.unusedSimpArgs false
theorem wr (x : Int) (h : -9223372036854775808 ≤ x) (h' : x ≤ 9223372036854775807) : wrap64 x = x := by unfold wrap64; omega
theorem bs_len (x : ByteArray) : (bs x).length = x.size := by unfold bs; rw [Array.length_toList]; rfl
theorem to_bs (x : ByteArray) : x.toList = bs x := by rw [ByteArray.toList_eq]; rfl
theorem bs_app (a b : ByteArray) : bs (a ++ b) = bs a ++ bs b := by unfold bs; rw [ByteArray.data_append, Array.toList_append]
theorem bs_ext (x : ByteArray) (i j : Nat) : bs (x.extract i j) = ((bs x).drop i).take (j - i) := by
  unfold bs
  rw [ByteArray.data_extract, Array.toList_extract, List.extract_eq_take_drop]
theorem bs_from (x : ByteArray) (i : Nat) : bs (x.extract i x.size) = (bs x).drop i := by
  rw [bs_ext, List.take_of_length_le (by rw [List.length_drop, bs_len]; omega)]
theorem bs_inj {a b : ByteArray} (h : bs a = bs b) : a = b := by
  cases a with
  | mk a => cases b with
    | mk b => unfold bs at h; congr 1; exact Array.toList_inj.1 h
theorem bs_mk (l : B) : bs ⟨l.toArray⟩ = l := by unfold bs; simp
theorem bt_get (x : ByteArray) (j : Nat) (h : j < (bs x).length) : bt x (j : Int) = (((bs x)[j]).toNat : Int) := by
  have h1 : j < x.size := by rw [bs_len] at h; exact h
  unfold bt
  rw [dif_pos (by rw [Int.toNat_natCast]; exact h1)]
  rfl
theorem or32 (c : UInt8) : Go.bits .or .u8 (c.toNat : Int) 32 = ((c ||| 32).toNat : Int) := by
  have key : ∀ n : Fin 256, Go.bits .or .u8 (n.1 : Int) 32 = (((UInt8.ofNat n.1) ||| 32).toNat : Int) := by decide +kernel
  have := key ⟨c.toNat, c.toNat_lt⟩
  simp only [UInt8.ofNat_toNat] at this
  exact this
def runB (b q : Int) : Bool := (decide (q ≥ 97) && decide (q ≤ 122)) || (decide (b ≥ 48) && decide (b ≤ 57)) || b == 36 || b == 33 || b == 46
theorem run_chain {α : Type} (b q : Int) (A C : α) : (if q ≥ 97 then (if q ≤ 122 then A else (if b ≥ 48 then (if b ≤ 57 then A else (if b = 36 then A else (if b = 33 then A else (if b = 46 then A else C)))) else (if b = 36 then A else (if b = 33 then A else (if b = 46 then A else C))))) else (if b ≥ 48 then (if b ≤ 57 then A else (if b = 36 then A else (if b = 33 then A else (if b = 46 then A else C)))) else (if b = 36 then A else (if b = 33 then A else (if b = 46 then A else C))))) = if runB b q = true then A else C := by
  unfold runB
  by_cases h1 : q ≥ 97 <;> by_cases h2 : q ≤ 122 <;> by_cases h3 : b ≥ 48 <;> by_cases h4 : b ≤ 57 <;> by_cases h5 : b = 36 <;> by_cases h6 : b = 33 <;> by_cases h7 : b = 46 <;> simp [h1, h2, h3, h4, h5, h6, h7]
theorem runB_run (c : UInt8) : runB (c.toNat : Int) ((c ||| 32).toNat : Int) = isRun c := by
  have key : ∀ n : Fin 256, runB (n.1 : Int) (((UInt8.ofNat n.1) ||| 32).toNat : Int) = isRun (UInt8.ofNat n.1) := by decide +kernel
  have := key ⟨c.toNat, c.toNat_lt⟩
  simp only [UInt8.ofNat_toNat] at this
  exact this
theorem run_l (x : ByteArray) (hx : (bs x).length ≤ 100000) : ∀ (n j : Nat), j + n = (bs x).length → ∀ k, n + 1 ≤ k → lex_run.l0 k x (j : Int) = some ((j + runLen ((bs x).drop j) : Nat) : Int)
  | 0, j, hj, k, hk => by
    obtain ⟨q, rfl⟩ : ∃ q, k = q + 1 := ⟨k - 1, by omega⟩
    have := bs_len x
    rw [lex_run.l0, if_neg (by omega), List.drop_of_length_le (by omega)]
    rfl
  | n + 1, j, hj, k, hk => by
    obtain ⟨q, rfl⟩ : ∃ q, k = q + 1 := ⟨k - 1, by omega⟩
    have hlen := bs_len x
    have c : j < (bs x).length := by omega
    obtain ⟨d, hd⟩ : ∃ d, (bs x)[j] = d := ⟨_, rfl⟩
    have ih := run_l x hx n (j + 1) (by omega) q (by omega)
    rw [lex_run.l0, if_pos (by omega), if_pos (by omega), bt_get x j c, hd, or32, run_chain, runB_run, wr _ (by omega) (by omega), List.drop_eq_getElem_cons c, hd]
    unfold runLen
    have e : ((j : Int) + 1) = ((j + 1 : Nat) : Int) := rfl
    rw [e, ih]
    by_cases g : isRun d = true
    · rw [if_pos g, if_pos g]
      congr 2
      omega
    · rw [if_neg g, if_neg g]
      rfl
theorem run_f (x : ByteArray) (hx : (bs x).length ≤ 100000) (k : Nat) (hk : (bs x).length + 1 ≤ k) : lex_run.f k x = some ((runLen (bs x) : Nat) : Int) := by
  have := run_l x hx (bs x).length 0 (by omega) k hk
  unfold lex_run.f
  refine Eq.trans this ?_
  rw [List.drop_zero, Nat.zero_add]
theorem qu_none (valid : B → Bool) : ∀ (r out : B) (i : Nat), 34 ∉ r → qu valid r out i = none
  | [], out, i, h => rfl
  | c :: r, out, i, h => by
    rw [qu_other valid c (fun e => h (by rw [e]; exact List.mem_cons_self))]
    exact qu_none valid r _ _ (fun hm => h (List.mem_cons_of_mem _ hm))
theorem qu_skip (valid : B → Bool) (r : B) : ∀ (a out : B) (i : Nat), 34 ∉ a → qu valid (a ++ r) out i = qu valid r (out ++ a) (i + a.length)
  | [], out, i, h => by rw [List.append_nil, List.nil_append, List.length_nil, Nat.add_zero]
  | c :: a, out, i, h => by
    rw [List.cons_append, qu_other valid c (fun e => h (by rw [e]; exact List.mem_cons_self)), qu_skip valid r a _ _ (fun hm => h (List.mem_cons_of_mem _ hm)), List.append_assoc, List.length_cons]
    congr 1
    omega
theorem ib_spec : ∀ (l : B) (c : UInt8), (indexByte l c = -1 ∧ c ∉ l) ∨ (∃ a r, l = a ++ c :: r ∧ c ∉ a ∧ indexByte l c = (a.length : Int))
  | [], c => Or.inl ⟨rfl, by simp⟩
  | b :: l, c => by
    by_cases h : b = c
    · right
      refine ⟨[], l, by rw [h]; rfl, by simp, ?_⟩
      unfold indexByte
      rw [if_pos (by simpa using h)]
      rfl
    · rcases ib_spec l c with ⟨h1, h2⟩ | ⟨a, r, h1, h2, h3⟩
      · left
        unfold indexByte
        rw [if_neg (by simpa using h), h1]
        exact ⟨rfl, by simp [h2, Ne.symm h]⟩
      · right
        refine ⟨b :: a, r, by rw [h1]; rfl, by simp [h2, Ne.symm h], ?_⟩
        unfold indexByte
        rw [if_neg (by simpa using h), h3, if_neg (by rw [beq_iff_eq]; omega)]
        rw [List.length_cons]
        rfl
def encQ : Option (B × Nat) → ByteArray × Int
  | none => ((⟨#[]⟩ : ByteArray), 0)
  | some p => (⟨p.1.toArray⟩, (p.2 : Int))
theorem mk_bs (x : ByteArray) : (⟨(bs x).toArray⟩ : ByteArray) = x := bs_inj (bs_mk (bs x))
theorem wr2 (i j : Nat) (h : i + j ≤ 1000000) : wrap64 ((i : Int) + (j : Int)) = ((i + j : Nat) : Int) := (wr _ (by omega) (by omega)).trans (Int.natCast_add i j).symm
theorem wr3 (i j : Nat) (h : i + j ≤ 1000000) : wrap64 ((i : Int) + wrap64 ((j : Int) + 1)) = ((i + j + 1 : Nat) : Int) := by
  rw [wr ((j : Int) + 1) (by omega) (by omega), wr ((i : Int) + ((j : Int) + 1)) (by omega) (by omega)]
  omega
theorem quo_l (x : ByteArray) (hx : (bs x).length ≤ 50000) : ∀ (n i : Nat), i ≤ (bs x).length → (bs x).length ≤ i + n → ∀ (k : Nat) (out : ByteArray), 2 * n + 2 ≤ k → out.size ≤ i → lex_quoted.l0 k x out (i : Int) = some (encQ (qu validB ((bs x).drop i) (bs out) i)) := by
  intro n
  induction n with
  | zero =>
    intro i hi hn k out hk ho
    obtain ⟨q, rfl⟩ : ∃ q, k = q + 1 := ⟨k - 1, by omega⟩
    have hlen := bs_len x
    rw [lex_quoted.l0, if_neg (by omega), List.drop_of_length_le (by omega)]
    rfl
  | succ n ih =>
    intro i hi hn k out hk ho
    obtain ⟨q, rfl⟩ : ∃ q, k = q + 2 := ⟨k - 2, by omega⟩
    have hlen := bs_len x
    by_cases c : i < (bs x).length
    · rw [lex_quoted.l0, if_pos (by omega), if_pos (by omega), if_pos (by omega), Int.toNat_natCast]
      have hib : strings_IndexByte.f (x.extract i x.size) 34 = some (indexByte ((bs x).drop i) 34) := by
        unfold strings_IndexByte.f
        rw [bs_from, show ((34 : Int).toNat.toUInt8) = (34 : UInt8) by decide]
      rw [hib, Option.bind_some]
      rcases ib_spec ((bs x).drop i) 34 with ⟨h1, h2⟩ | ⟨a, r, h1, h2, h3⟩
      · rw [h1, if_pos (by decide), qu_none validB _ _ _ h2]
        rfl
      · have hal : a.length + r.length + 1 = (bs x).length - i := by
          have := congrArg List.length h1
          rw [List.length_drop, List.length_append, List.length_cons] at this
          omega
        have b0 : i + a.length ≤ 1000000 := by omega
        have w1 := Aside0.mk (wr2 i a.length b0)
        have w2 := Aside0.mk (wr3 i a.length b0)
        have hex : bs (x.extract i (i + a.length)) = a := by
          rw [bs_ext, h1, show i + a.length - i = a.length by omega, List.take_left]
        have hes : (x.extract i (i + a.length)).size = a.length := by rw [← bs_len, hex]
        obtain ⟨o2, ho2⟩ : ∃ o2, out ++ x.extract i (i + a.length) = o2 := ⟨_, rfl⟩
        have hb2 : bs o2 = bs out ++ a := by rw [← ho2, bs_app, hex]
        have hs2 : o2.size ≤ i + a.length := by rw [← bs_len, hb2, List.length_append, bs_len]; omega
        rw [h3, if_neg (by omega), w1.out, w2.out, if_pos (by omega), if_pos (by omega), Int.toNat_natCast, if_pos (by rw [hes]; omega), ho2, h1, qu_skip validB _ a (bs out) i h2, ← hb2]
        have stop : r.head? ≠ some 34 → lex_quoted.j1 (q + 1) x o2 ((i + a.length + 1 : Nat) : Int) true = some (encQ (qu validB (34 :: r) (bs o2) (i + a.length))) := by
          intro hr
          have hv : utf8_ValidString.f o2 = some (validB (bs o2)) := by
            unfold utf8_ValidString.f
            rw [if_pos (by omega)]
          rw [lex_quoted.j1, if_pos rfl, qu_stop validB _ _ r hr, bs_len]
          by_cases g : o2.size ≤ 200
          · rw [if_neg (by omega), hv, Option.bind_some]
            by_cases gv : validB (bs o2) = true
            · rw [if_pos gv, if_pos ⟨g, gv⟩]
              show some (o2, ((i + a.length + 1 : Nat) : Int)) = some ((⟨(bs o2).toArray⟩ : ByteArray), ((i + a.length + 1 : Nat) : Int))
              rw [mk_bs]
            · rw [if_neg gv, if_neg (fun h => gv h.2)]
              rfl
          · rw [if_pos (by omega), if_neg (fun h => g h.1)]
            rfl
        by_cases ce : i + a.length + 1 = (bs x).length
        · rw [if_pos (by omega)]
          refine stop ?_
          have : r = [] := List.length_eq_zero_iff.1 (by omega)
          rw [this]
          simp
        · obtain ⟨d, r2, hr⟩ : ∃ d r2, r = d :: r2 := by
            cases r with
            | nil => simp at hal; omega
            | cons d r2 => exact ⟨d, r2, rfl⟩
          have hd : (bs x)[i + a.length + 1]'(by omega) = d := by
            have e1 : ((bs x).drop i)[a.length + 1]? = some d := by
              rw [h1, hr, List.getElem?_append_right (by omega), show a.length + 1 - a.length = 1 by omega]
              rfl
            rw [List.getElem?_drop, show i + (a.length + 1) = i + a.length + 1 by omega, List.getElem?_eq_getElem (by omega)] at e1
            exact Option.some.inj e1
          rw [if_neg (by omega), if_pos (by omega), if_pos (by omega), bt_get x _ (by omega), hd]
          by_cases h34 : d = 34
          · subst h34
            rw [show (((34 : UInt8).toNat : Int) != 34) = false from rfl, lex_quoted.j1, if_neg (by simp), if_pos (by omega), hr, qu_two, wr _ (by omega) (by omega)]
            have hdrop : (bs x).drop (i + a.length + 2) = r2 := by
              have e2 : (bs x).drop (i + a.length + 2) = ((bs x).drop i).drop (a.length + 2) := by rw [List.drop_drop]; congr 1
              rw [e2, h1, hr, List.drop_append, List.drop_of_length_le (by omega), show a.length + 2 - a.length = 2 by omega]
              rfl
            have := ih (i + a.length + 2) (by omega) (by omega) q (o2 ++ (⟨#[34]⟩ : ByteArray)) (by omega) (by rw [← bs_len, bs_app, List.length_append, bs_len]; have : (bs (⟨#[34]⟩ : ByteArray)).length = 1 := rfl; omega)
            rw [hdrop, bs_app] at this
            exact this
          · have hne : ((d.toNat : Int) != 34) = true := by
              rw [bne_iff_ne]
              intro e
              exact h34 (UInt8.toNat_inj.1 (by have : d.toNat = 34 := by omega
                                               exact this))
            rw [hne]
            exact stop (by rw [hr]; simp [h34])
    · rw [lex_quoted.l0, if_neg (by omega), List.drop_of_length_le (by omega)]
      rfl
theorem quo_f (x : ByteArray) (hx : (bs x).length ≤ 50000) (h1 : 1 ≤ (bs x).length) (k : Nat) (hk : 2 * (bs x).length + 2 ≤ k) : lex_quoted.f k x = some (encQ (qu validB ((bs x).drop 1) [] 1)) :=
  quo_l x hx (bs x).length 1 h1 (by omega) k (⟨#[]⟩ : ByteArray) hk (Nat.zero_le _)
end Go.Proofs.YtpabggjnkoehfaaDoor.LexR
end
section
namespace Go.Proofs.YtpabggjnkoehfaaDoor.LexR
open Go.RowKit Go.Lib Go.Proofs.YtpabggjnkoehfaaDoorW.PrintWords Go.Proofs.YtpabggjnkoehfaaDoor.ExtL Go.Proofs.YtpabggjnkoehfaaDoor.ELex Go.Proofs.YtpabggjnkoehfaaDoor.Lx
set_option linter.unusedVariables false
set_option linter.unusedSimpArgs false
def baOf (l : B) : ByteArray := ⟨l.toArray⟩
theorem bs_baOf (l : B) : bs (baOf l) = l := bs_mk l
theorem baOf_len (l : B) : (baOf l).size = l.length := by rw [← bs_len, bs_baOf]
theorem ext_baOf (x : ByteArray) (n : Nat) (h : n ≤ (bs x).length) : x.extract 0 n = baOf ((bs x).take n) := by
  apply bs_inj
  rw [bs_ext, bs_baOf, List.drop_zero, Nat.sub_zero]
theorem prefix_beq (e s : B) (h : e.length ≤ s.length) : (s.take e.length == e) = e.isPrefixOf s := by
  by_cases g : e.isPrefixOf s = true
  · rw [g]
    obtain ⟨r, hr⟩ := prefix_len e s g
    rw [hr, List.take_left]
    exact beq_self_eq_true e
  · have g' : e.isPrefixOf s = false := Bool.eq_false_iff.mpr g
    rw [g']
    rw [beq_eq_false_iff_ne]
    intro e2
    apply g
    exact List.isPrefixOf_iff_prefix.2 (e2 ▸ List.take_prefix _ _)
theorem hp_f (x e : ByteArray) : strings_HasPrefix.f x e = some ((bs e).isPrefixOf (bs x)) := by
  unfold strings_HasPrefix.f stringslite_HasPrefix.f
  have h1 := bs_len x
  have h2 := bs_len e
  by_cases c : e.size ≤ x.size
  · rw [if_pos (by omega), if_pos (by omega), if_pos (by omega), Option.bind_some, Int.toNat_natCast, to_bs, to_bs, bs_ext, List.drop_zero, Nat.sub_zero, ← h2, prefix_beq _ _ (by omega)]
  · rw [if_neg (by omega), Option.bind_some]
    congr 1
    cases g : (bs e).isPrefixOf (bs x) with
    | false => rfl
    | true =>
      exfalso
      have := (List.isPrefixOf_iff_prefix.1 g).length_le
      omega
theorem name_step (k : Nat) (x : ByteArray) (i : Nat) (e : ByteArray) (hi : i ≤ 7) (he : value_Name.f (i : Int) = some e) :
    lex_next.l0 (k + 1) x (i : Int) = if (bs e).isPrefixOf (bs x) = true then some (5, e, (e.size : Int)) else lex_next.l0 k x ((i + 1 : Nat) : Int) := by
  rw [lex_next.l0, if_pos (by omega), he, Option.bind_some, hp_f, Option.bind_some, wr _ (by omega) (by omega)]
  rfl
theorem names_l (x : ByteArray) (k : Nat) : lex_next.l0 (k + 8) x 1 = match errNames.find? (fun e => e.isPrefixOf (bs x)) with
    | some e => some (5, baOf e, (e.length : Int))
    | none => lex_next.l1 k x [2, 1] 2 0 := by
  have n1 : value_Name.f ((1 : Nat) : Int) = some (baOf [35, 82, 69, 70, 33]) := rfl
  have n2 : value_Name.f ((2 : Nat) : Int) = some (baOf [35, 67, 89, 67, 76, 69, 33]) := rfl
  have n3 : value_Name.f ((3 : Nat) : Int) = some (baOf [35, 68, 73, 86, 47, 48, 33]) := rfl
  have n4 : value_Name.f ((4 : Nat) : Int) = some (baOf [35, 78, 85, 77, 33]) := rfl
  have n5 : value_Name.f ((5 : Nat) : Int) = some (baOf [35, 86, 65, 76, 85, 69, 33]) := rfl
  have n6 : value_Name.f ((6 : Nat) : Int) = some (baOf [35, 78, 65, 77, 69, 63]) := rfl
  have n7 : value_Name.f ((7 : Nat) : Int) = some (baOf [35, 78, 47, 65]) := rfl
  have s1 := name_step (k + 7) x 1 _ (by decide) n1
  have s2 := name_step (k + 6) x 2 _ (by decide) n2
  have s3 := name_step (k + 5) x 3 _ (by decide) n3
  have s4 := name_step (k + 4) x 4 _ (by decide) n4
  have s5 := name_step (k + 3) x 5 _ (by decide) n5
  have s6 := name_step (k + 2) x 6 _ (by decide) n6
  have s7 := name_step (k + 1) x 7 _ (by decide) n7
  have s8 : lex_next.l0 (k + 1) x ((8 : Nat) : Int) = lex_next.l1 k x [2, 1] 2 0 := by
    rw [lex_next.l0, if_neg (by decide)]
    rfl
  refine Eq.trans s1 ?_
  simp only [bs_baOf, baOf_len] at s1 s2 s3 s4 s5 s6 s7 ⊢
  unfold errNames
  simp only [List.find?_cons]
  by_cases c1 : List.isPrefixOf ([35, 82, 69, 70, 33] : B) (bs x) = true
  · rw [if_pos c1, c1]
  · rw [if_neg c1, Bool.eq_false_iff.mpr c1]
    refine Eq.trans s2 ?_
    by_cases c2 : List.isPrefixOf ([35, 67, 89, 67, 76, 69, 33] : B) (bs x) = true
    · rw [if_pos c2, c2]
    · rw [if_neg c2, Bool.eq_false_iff.mpr c2]
      refine Eq.trans s3 ?_
      by_cases c3 : List.isPrefixOf ([35, 68, 73, 86, 47, 48, 33] : B) (bs x) = true
      · rw [if_pos c3, c3]
      · rw [if_neg c3, Bool.eq_false_iff.mpr c3]
        refine Eq.trans s4 ?_
        by_cases c4 : List.isPrefixOf ([35, 78, 85, 77, 33] : B) (bs x) = true
        · rw [if_pos c4, c4]
        · rw [if_neg c4, Bool.eq_false_iff.mpr c4]
          refine Eq.trans s5 ?_
          by_cases c5 : List.isPrefixOf ([35, 86, 65, 76, 85, 69, 33] : B) (bs x) = true
          · rw [if_pos c5, c5]
          · rw [if_neg c5, Bool.eq_false_iff.mpr c5]
            refine Eq.trans s6 ?_
            by_cases c6 : List.isPrefixOf ([35, 78, 65, 77, 69, 63] : B) (bs x) = true
            · rw [if_pos c6, c6]
            · rw [if_neg c6, Bool.eq_false_iff.mpr c6]
              refine Eq.trans s7 ?_
              by_cases c7 : List.isPrefixOf ([35, 78, 47, 65] : B) (bs x) = true
              · rw [if_pos c7, c7]
              · rw [if_neg c7, Bool.eq_false_iff.mpr c7]
                exact s8
def SIGb : ByteArray := (⟨#[32, 43, 32, 45, 32, 42, 32, 47, 32, 38, 32, 61, 32, 60, 62, 32, 60, 32, 60, 61, 32, 62, 32, 62, 61, 32, 40, 32, 41, 32, 44, 32, 58, 32]⟩ : ByteArray)
theorem con_f (y : ByteArray) : strings_Contains.f SIGb y = some (contains SIG (bs y)) := by
  unfold strings_Contains.f
  rw [if_pos (by decide)]
  rfl
theorem con_g (a y : ByteArray) (h : a.size ≤ 100000) : strings_Contains.f a y = some (contains (bs a) (bs y)) := by
  unfold strings_Contains.f
  rw [if_pos h]
theorem bs_around (e : ByteArray) : bs (((⟨#[32]⟩ : ByteArray) ++ e) ++ (⟨#[32]⟩ : ByteArray)) = 32 :: bs e ++ [32] := by
  rw [bs_app, bs_app]
  rfl
theorem sign_step (k : Nat) (x : ByteArray) (hx : (bs x).length ≤ 1000) (i m : Nat) (hi : i < 2) (hm : rd [2, 1] (i : Int) = (m : Int)) (hm2 : m ≤ 2) (w : B) (hw : (bs x).take m = w) :
    lex_next.l1 (k + 1) x [2, 1] 2 (i : Int) = if m ≤ (bs x).length ∧ (contains SIG (32 :: w ++ [32]) && !contains w [32]) = true then some (6, baOf w, (m : Int)) else lex_next.l1 k x [2, 1] 2 ((i + 1 : Nat) : Int) := by
  have hlen := bs_len x
  have hl2 : ((([2, 1] : List Int).length : Nat) : Int) = 2 := rfl
  have hnext : wrap64 ((i : Int) + 1) = ((i + 1 : Nat) : Int) := by rw [wr _ (by omega) (by omega)]; omega
  rw [lex_next.l1, if_pos (by omega), if_pos (by omega), if_pos (by rw [hl2]; omega), hm, hnext]
  clear hnext
  by_cases c : m ≤ (bs x).length
  · have hex : x.extract 0 m = baOf w := by rw [ext_baOf x m c, hw]
    have hwl : w.length = m := by rw [← hw, List.length_take]; omega
    have z1 : ((⟨#[32]⟩ : ByteArray)).size = 1 := rfl
    have hsz : ((⟨#[32]⟩ : ByteArray) ++ baOf w).size = m + 1 := by rw [← bs_len, bs_app, List.length_append, bs_baOf, bs_len, z1, hwl]; omega
    rw [if_pos (by omega), if_pos (by omega), if_pos (by omega), Int.toNat_natCast, hex, if_pos (by rw [baOf_len]; omega), if_pos (by rw [hsz]; omega)]
    have e1 := con_f (((⟨#[32]⟩ : ByteArray) ++ baOf w) ++ (⟨#[32]⟩ : ByteArray))
    rw [bs_around, bs_baOf] at e1
    have e2 := con_g (baOf w) (⟨#[32]⟩ : ByteArray) (by rw [baOf_len]; omega)
    rw [bs_baOf] at e2
    have e2' : strings_Contains.f (baOf w) (⟨#[32]⟩ : ByteArray) = some (contains w [32]) := e2
    unfold SIGb at e1
    rw [e1, Option.bind_some]
    cases g1 : contains SIG (32 :: w ++ [32]) with
    | false => rw [if_neg (by simp), if_neg (by simp)]
    | true =>
      rw [if_pos rfl, e2', Option.bind_some]
      cases g2 : contains w [32] with
      | true => rw [if_pos rfl, if_neg (by simp)]
      | false => rw [if_neg (by simp), if_pos ⟨c, by simp⟩]
  · rw [if_neg (by omega), if_neg (fun h => c h.1)]
theorem con_one (c : UInt8) (hc : c ≠ 32) : contains ([c] : B) [32] = false := by
  have : (32 == c) = false := by simpa using Ne.symm hc
  simp [contains, index, List.isPrefixOf, this]
theorem con_two (c d : UInt8) (hc : c ≠ 32) (hd : d ≠ 32) : contains ([c, d] : B) [32] = false := by
  have h1 : (32 == c) = false := by simpa using Ne.symm hc
  have h2 : (32 == d) = false := by simpa using Ne.symm hd
  simp [contains, index, List.isPrefixOf, h1, h2]
theorem con_blank (c : UInt8) : contains ([c, 32] : B) [32] = true := by
  by_cases h : c = 32
  · subst h; decide
  · have h1 : (32 == c) = false := by simpa using Ne.symm h
    simp [contains, index, List.isPrefixOf, h1]
theorem signs_l (x : ByteArray) (hx : (bs x).length ≤ 1000) (c : UInt8) (r : B) (hc : c ≠ 32) (hb : bs x = c :: r) (k : Nat) : lex_next.l1 (k + 3) x [2, 1] 2 0 =
    if 2 ≤ (bs x).length ∧ sgn ((bs x).take 2) = true then some (6, baOf ((bs x).take 2), 2) else if 1 ≤ (bs x).length ∧ sgn ((bs x).take 1) = true then some (6, baOf ((bs x).take 1), 1) else some (0, (⟨#[]⟩ : ByteArray), 0) := by
  have s1 := sign_step (k + 2) x hx 0 2 (by decide) rfl (by decide) _ rfl
  have s2 := sign_step (k + 1) x hx 1 1 (by decide) rfl (by decide) _ rfl
  have s3 : lex_next.l1 (k + 1) x [2, 1] 2 ((2 : Nat) : Int) = some (0, (⟨#[]⟩ : ByteArray), 0) := by
    rw [lex_next.l1, if_neg (by decide)]
  have e2 : (2 ≤ (bs x).length ∧ (contains SIG (32 :: (bs x).take 2 ++ [32]) && !contains ((bs x).take 2) [32]) = true) ↔ (2 ≤ (bs x).length ∧ sgn ((bs x).take 2) = true) := by
    refine and_congr_right (fun h => ?_)
    rw [hb] at h ⊢
    cases r with
    | nil => simp at h
    | cons d r =>
      show (contains SIG [32, c, d, 32] && !contains [c, d] [32]) = true ↔ sgn [c, d] = true
      by_cases hd : d = 32
      · subst hd
        rw [con_blank, sgn_blank]
        simp
      · rw [con_two c d hc hd, con2 c d hc hd]
        simp
  have e1 : (1 ≤ (bs x).length ∧ (contains SIG (32 :: (bs x).take 1 ++ [32]) && !contains ((bs x).take 1) [32]) = true) ↔ (1 ≤ (bs x).length ∧ sgn ((bs x).take 1) = true) := by
    refine and_congr_right (fun h => ?_)
    rw [hb]
    show (contains SIG [32, c, 32] && !contains [c] [32]) = true ↔ sgn [c] = true
    rw [con_one c hc, con1 c hc]
    simp
  refine Eq.trans s1 ?_
  simp only [e2]
  by_cases g2 : 2 ≤ (bs x).length ∧ sgn ((bs x).take 2) = true
  · rw [if_pos g2, if_pos g2]
    rfl
  · rw [if_neg g2, if_neg g2]
    refine Eq.trans s2 ?_
    simp only [e1]
    by_cases g1 : 1 ≤ (bs x).length ∧ sgn ((bs x).take 1) = true
    · rw [if_pos g1, if_pos g1]
      rfl
    · rw [if_neg g1, if_neg g1]
      exact s3
def nextR (o : Option (Int × B × Nat)) (p : Int × ByteArray × Int) : Prop :=
  match o with
  | some (k, t, n) => p = (k, baOf t, (n : Int))
  | none => p.2.2 = 0
theorem next_f (x : ByteArray) (hx : (bs x).length ≤ 1000) (c : UInt8) (r : B) (hc : c ≠ 32) (hb : bs x = c :: r) (k : Nat) (hk : 5000 ≤ k) : ∃ p, lex_next.f k x = some p ∧ nextR (nextS numB refB validB (bs x)) p := by
  have hlen := bs_len x
  have h1 : 1 ≤ (bs x).length := by rw [hb]; simp
  have hbt : bt x 0 = ((c.toNat : Nat) : Int) := by
    have := bt_get x 0 h1
    have e : (bs x)[0] = c := by simp [hb]
    rw [e] at this
    exact this
  have hh : (bs x).head? = some c := by rw [hb]; rfl
  unfold lex_next.f
  rw [if_pos (by omega), hbt]
  by_cases g : c = 34
  · subst g
    rw [if_pos (show (((34 : UInt8).toNat : Nat) : Int) = 34 by decide), quo_f x (by omega) h1 k (by omega), Option.bind_some]
    refine ⟨_, rfl, ?_⟩
    unfold nextS
    rw [hh, if_pos rfl]
    cases hq : qu validB ((bs x).drop 1) [] 1 with
    | none => rfl
    | some p => rfl
  · have g2 : ¬ (((c.toNat : Nat) : Int) = 34) := by
      intro e
      exact g (UInt8.toNat_inj.1 (show c.toNat = 34 by omega))
    have hrle := runLen_le (bs x)
    obtain ⟨n, hn⟩ : ∃ n, runLen (bs x) = n := ⟨_, rfl⟩
    rw [if_neg g2, run_f x (by omega) k (by omega), Option.bind_some, hn]
    rw [hn] at hrle
    have hnx : nextS numB refB validB (bs x) = (if 0 < n then (if wordS numB refB ((bs x).take n) ((bs x).drop n) = 0 then none else some (wordS numB refB ((bs x).take n) ((bs x).drop n), (bs x).take n, n))
      else match errNames.find? (fun e => e.isPrefixOf (bs x)) with
        | some e => some (5, e, e.length)
        | none => if 2 ≤ (bs x).length ∧ sgn ((bs x).take 2) = true then some (6, (bs x).take 2, 2) else if 1 ≤ (bs x).length ∧ sgn ((bs x).take 1) = true then some (6, (bs x).take 1, 1) else none) := by
      unfold nextS
      rw [hh, if_neg (fun e => g (Option.some.inj e)), hn]
      by_cases g0 : 0 < n
      · rw [if_pos g0, if_pos g0]
      · rw [if_neg g0, if_neg g0]
        cases errNames.find? (fun e => e.isPrefixOf (bs x)) <;> rfl
    rw [hnx]
    clear hnx
    by_cases g3 : 0 < n
    · have hword : lex_word.f (x.extract 0 n) (x.extract n x.size) = some (wordS numB refB ((bs x).take n) ((bs x).drop n)) := by
        unfold lex_word.f
        have e1 : bs (x.extract 0 n) = (bs x).take n := by rw [bs_ext, List.drop_zero, Nat.sub_zero]
        rw [if_pos (by rw [← bs_len, e1, List.length_take]; omega), e1, bs_from]
      rw [if_pos (by omega), if_pos (by omega), if_pos (by omega), Int.toNat_natCast, hword, Option.bind_some, if_pos g3]
      by_cases g4 : wordS numB refB ((bs x).take n) ((bs x).drop n) = 0
      · rw [if_pos g4, if_pos g4]
        exact ⟨_, rfl, rfl⟩
      · rw [if_neg g4, if_neg g4, ext_baOf x n hrle]
        exact ⟨_, rfl, rfl⟩
    · obtain ⟨q, rfl⟩ : ∃ q, k = (q + 3) + 8 := ⟨k - 11, by omega⟩
      rw [if_neg (by omega), if_neg g3, names_l x (q + 3)]
      cases hf : errNames.find? (fun e => e.isPrefixOf (bs x)) with
      | some e => exact ⟨_, rfl, rfl⟩
      | none =>
        simp only
        rw [signs_l x hx c r hc hb q]
        by_cases g5 : 2 ≤ (bs x).length ∧ sgn ((bs x).take 2) = true
        · rw [if_pos g5, if_pos g5]
          exact ⟨_, rfl, rfl⟩
        · rw [if_neg g5, if_neg g5]
          by_cases g6 : 1 ≤ (bs x).length ∧ sgn ((bs x).take 1) = true
          · rw [if_pos g6, if_pos g6]
            exact ⟨_, rfl, rfl⟩
          · rw [if_neg g6, if_neg g6]
            exact ⟨_, rfl, rfl⟩
def toW (w : Int × B × Nat) : S43 := ⟨w.1, baOf w.2.1, (w.2.2 : Int)⟩
theorem scan_l (x : ByteArray) (hx : (bs x).length ≤ 1000) : ∀ (n j : Nat), j ≤ (bs x).length → (bs x).length ≤ j + n → ∀ (k : Nat) (acc : List S43), n + 6000 ≤ k → acc.length ≤ j →
    ∃ p, lex_Scan.l0 k x acc (j : Int) = some p ∧ (match scanS numB refB validB (n + 1) ((bs x).drop j) j with
      | some l => p = (acc ++ l.map toW, 0, true)
      | none => p.2.2 = false) := by
  intro n
  induction n with
  | zero =>
    intro j hj hn k acc hk ha
    have hlen := bs_len x
    obtain ⟨q, rfl⟩ : ∃ q, k = q + 1 := ⟨k - 1, by omega⟩
    rw [lex_Scan.l0, if_neg (by omega), if_pos (by omega), List.drop_of_length_le (by omega)]
    refine ⟨_, rfl, ?_⟩
    show _ = (acc ++ [toW (7, [], j)], 0, true)
    unfold toW
    have : (j : Int) = (x.size : Int) := by omega
    rw [this]
    rfl
  | succ n ih =>
    intro j hj hn k acc hk ha
    have hlen := bs_len x
    obtain ⟨q, rfl⟩ : ∃ q, k = q + 1 := ⟨k - 1, by omega⟩
    by_cases c : j < (bs x).length
    · obtain ⟨d, hd⟩ : ∃ d, (bs x)[j] = d := ⟨_, rfl⟩
      have hdr : (bs x).drop j = d :: (bs x).drop (j + 1) := by rw [List.drop_eq_getElem_cons c, hd]
      rw [lex_Scan.l0, if_pos (by omega), if_pos (by omega), bt_get x j c, hd, hdr]
      unfold scanS
      simp only
      by_cases g : d = 32
      · subst g
        rw [if_pos (show (((32 : UInt8).toNat : Nat) : Int) = 32 by decide), wr ((j : Int) + 1) (by omega) (by omega)]
        have := ih (j + 1) (by omega) (by omega) q acc (by omega) (by omega)
        exact this
      · have g2 : ¬ (((d.toNat : Nat) : Int) = 32) := by
          intro e
          exact g (UInt8.toNat_inj.1 (show d.toNat = 32 by omega))
        have hb2 : bs (x.extract j x.size) = d :: (bs x).drop (j + 1) := by rw [bs_from, hdr]
        have hl2 : (bs (x.extract j x.size)).length ≤ 1000 := by rw [bs_from, List.length_drop]; omega
        obtain ⟨p, hp, hr⟩ := next_f (x.extract j x.size) hl2 d _ g hb2 q (by omega)
        rw [if_neg g2, if_neg g, if_pos (by omega), Int.toNat_natCast, hp, Option.bind_some]
        rw [hb2] at hr
        cases hs : nextS numB refB validB (d :: (bs x).drop (j + 1)) with
        | none =>
          rw [hs] at hr
          have hr0 : p.2.2 = 0 := hr
          rw [if_pos hr0]
          exact ⟨_, rfl, rfl⟩
        | some w =>
          obtain ⟨kk, t, m⟩ := w
          rw [hs] at hr
          have hr' : p = (kk, baOf t, (m : Int)) := hr
          subst hr'
          have hm := next_len numB refB validB _ kk t m hs
          have hm2 : m ≤ (bs x).length - j := by
            have := hm.2
            rw [← hdr, List.length_drop] at this
            exact this
          dsimp only
          rw [if_neg (show ¬ ((m : Int) = 0) by omega), if_pos (by omega), wr ((j : Int) + (m : Int)) (by omega) (by omega)]
          have e1 : ((j : Int) + (m : Int)) = ((j + m : Nat) : Int) := (Int.natCast_add j m).symm
          rw [e1]
          have hdrop : (d :: (bs x).drop (j + 1)).drop m = (bs x).drop (j + m) := by rw [← hdr, List.drop_drop]
          have hmono : ∀ (f1 f2 : Nat) (s : B) (a : Nat), f1 ≤ f2 → s.length < f1 → scanS numB refB validB f1 s a = scanS numB refB validB f2 s a := by
            intro f1
            induction f1 with
            | zero => intro f2 s a h1 h2; omega
            | succ f1 ihf =>
              intro f2 s a h1 h2
              obtain ⟨f2, rfl⟩ : ∃ q, f2 = q + 1 := ⟨f2 - 1, by omega⟩
              cases s with
              | nil => rfl
              | cons c0 s =>
                unfold scanS
                simp only
                by_cases h32 : c0 = 32
                · rw [if_pos h32, if_pos h32]
                  exact ihf f2 s _ (by omega) (by simp at h2; omega)
                · rw [if_neg h32, if_neg h32]
                  cases hn2 : nextS numB refB validB (c0 :: s) with
                  | none => rfl
                  | some w =>
                    obtain ⟨k3, t3, m3⟩ := w
                    have h3 := next_len numB refB validB _ k3 t3 m3 hn2
                    simp only
                    rw [ihf f2 ((c0 :: s).drop m3) _ (by omega) (by rw [List.length_drop]; omega)]
          obtain ⟨p2, hp2, hr2⟩ := ih (j + m) (by omega) (by omega) q (acc ++ [(⟨kk, baOf t, (j : Int)⟩ : S43)]) (by omega) (by rw [List.length_append, List.length_singleton]; omega)
          refine ⟨p2, hp2, ?_⟩
          rw [hdrop]
          cases hsc : scanS numB refB validB (n + 1) ((bs x).drop (j + m)) (j + m) with
          | none => rw [hsc] at hr2; exact hr2
          | some l =>
            rw [hsc] at hr2
            have hr3 : p2 = (acc ++ [(⟨kk, baOf t, (j : Int)⟩ : S43)] ++ l.map toW, 0, true) := hr2
            rw [hr3, List.append_assoc]
            rfl
    · rw [lex_Scan.l0, if_neg (by omega), if_pos (by omega), List.drop_of_length_le (by omega)]
      refine ⟨_, rfl, ?_⟩
      show _ = (acc ++ [toW (7, [], j)], 0, true)
      unfold toW
      have : (j : Int) = (x.size : Int) := by omega
      rw [this]
      rfl
end Go.Proofs.YtpabggjnkoehfaaDoor.LexR
end
section
namespace Go.Proofs.YtpabggjnkoehfaaDoor.LexR
open Go.RowKit Go.Lib Go.Proofs.YtpabggjnkoehfaaDoorW.PrintWords Go.Proofs.YtpabggjnkoehfaaDoor.ExtL Go.Proofs.YtpabggjnkoehfaaDoor.ELex Go.Proofs.YtpabggjnkoehfaaDoor.Lx
set_option linter.unusedVariables false
set_option linter.unusedSimpArgs false
abbrev scanN := scanS numB refB validB
theorem scan_mono : ∀ (f1 f2 : Nat) (s : B) (a : Nat), s.length < f1 → s.length < f2 → scanN f1 s a = scanN f2 s a := by
  intro f1
  induction f1 with
  | zero => intro f2 s a h1 h2; omega
  | succ f1 ihf =>
    intro f2 s a h1 h2
    obtain ⟨f2, rfl⟩ : ∃ q, f2 = q + 1 := ⟨f2 - 1, by omega⟩
    cases s with
    | nil => rfl
    | cons c0 s =>
      show scanS numB refB validB (f1 + 1) (c0 :: s) a = scanS numB refB validB (f2 + 1) (c0 :: s) a
      unfold scanS
      simp only
      by_cases h32 : c0 = 32
      · rw [if_pos h32, if_pos h32]
        exact ihf f2 s _ (by simp at h1; omega) (by simp at h2; omega)
      · rw [if_neg h32, if_neg h32]
        cases hn2 : nextS numB refB validB (c0 :: s) with
        | none => rfl
        | some w =>
          obtain ⟨k3, t3, m3⟩ := w
          have h3 := next_len numB refB validB _ k3 t3 m3 hn2
          have := ihf f2 ((c0 :: s).drop m3) (a + m3) (by rw [List.length_drop]; omega) (by rw [List.length_drop]; omega)
          simp only
          rw [show scanS numB refB validB f1 ((c0 :: s).drop m3) (a + m3) = scanS numB refB validB f2 ((c0 :: s).drop m3) (a + m3) from this]
theorem scan_f (x : ByteArray) (hx : (bs x).length ≤ 1000) (k : Nat) (hk : 8000 ≤ k) : ∃ p, lex_Scan.f k x = some p ∧ (match scanN ((bs x).length + 1) (bs x) 0 with
    | some l => p = (l.map toW, 0, true)
    | none => p.2.2 = false) := by
  have hlen := bs_len x
  obtain ⟨p, h1, h2⟩ := scan_l x hx (bs x).length 0 (Nat.zero_le _) (by omega) k [] (by omega) (Nat.le_refl _)
  refine ⟨p, ?_, ?_⟩
  · unfold lex_Scan.f
    rw [if_neg (by omega)]
    exact h1
  · rw [List.drop_zero] at h2
    exact h2
theorem begun_f (k : Nat) (hk : 8000 ≤ k) : counterpanelaw6_begun.f k = some true := by
  have hb : bs (⟨#[83, 85, 77, 40, 65, 49, 58, 36, 66, 50, 41, 32, 38, 32, 34, 97, 34, 34, 98, 34]⟩ : ByteArray) = begunS := rfl
  obtain ⟨p, h1, h2⟩ := scan_f (⟨#[83, 85, 77, 40, 65, 49, 58, 36, 66, 50, 41, 32, 38, 32, 34, 97, 34, 34, 98, 34]⟩ : ByteArray) (by rw [hb]; decide) k hk
  rw [hb] at h2
  have h3 := begun_scan numB refB validB num_SUM ref_SUM num_A1 ref_A1 num_B2 ref_B2 valid_ab
  rw [scan_mono (begunS.length + 1) 30 begunS 0 (by omega) (by decide), show scanN 30 begunS 0 = _ from h3] at h2
  have h4 : p = _ := h2
  subst h4
  unfold counterpanelaw6_begun.f
  rw [h1, Option.bind_some]
  have e0 : ∀ i : Nat, ∀ w, ([((4 : Int), ([83, 85, 77] : B), 0), (6, [40], 3), (3, [65, 49], 4), (6, [58], 6), (3, [36, 66, 50], 7), (6, [41], 10), (6, [38], 12), (2, [97, 34, 98], 14), (7, [], 20)] : List (Int × B × Nat))[i]? = some w → rd_T43 (([((4 : Int), ([83, 85, 77] : B), 0), (6, [40], 3), (3, [65, 49], 4), (6, [58], 6), (3, [36, 66, 50], 7), (6, [41], 10), (6, [38], 12), (2, [97, 34, 98], 14), (7, [], 20)] : List (Int × B × Nat)).map toW) (i : Int) = toW w := by
    intro i w hw
    unfold rd_T43
    rw [Int.toNat_natCast, List.getD_eq_getElem?_getD, List.getElem?_map, hw]
    rfl
  have r0 := e0 0 _ rfl
  have r2 := e0 2 _ rfl
  have r7 := e0 7 _ rfl
  have r8 := e0 8 _ rfl
  have g0 : rd_T43 _ 0 = _ := r0
  have g2 : rd_T43 _ 2 = _ := r2
  have g7 : rd_T43 _ 7 = _ := r7
  have g8 : rd_T43 _ 8 = _ := r8
  dsimp only
  rw [if_pos rfl, if_pos (by rfl), if_pos (by decide), g0, if_pos (by rfl), if_pos (by decide), g2, if_pos (by rfl), if_pos (by decide), g7, if_pos (by rfl), to_bs, if_pos (by show bs (baOf [97, 34, 98]) = _; rw [bs_baOf]), if_pos (by decide), g8]
  rfl
end Go.Proofs.YtpabggjnkoehfaaDoor.LexR
end
section
namespace Go.Proofs.YtpabggjnkoehfaaDoor.LexR
open Go.RowKit Go.Lib Go.Proofs.YtpabggjnkoehfaaDoorW.PrintWords Go.Proofs.YtpabggjnkoehfaaDoor.ExtL Go.Proofs.YtpabggjnkoehfaaDoor.ELex Go.Proofs.YtpabggjnkoehfaaDoor.Lx
set_option linter.unusedVariables false
theorem scan_places : ∀ (f : Nat) (s : B) (a : Nat) (l : List (Int × B × Nat)), scanN f s a = some l → (∀ w ∈ l, a ≤ w.2.2 ∧ w.2.2 ≤ a + s.length) ∧ l.Pairwise (fun v w => v.2.2 ≤ w.2.2)
  | 0, s, a, l, h => by simp [scanN, scanS] at h
  | f + 1, [], a, l, h => by
    have hl : l = [(7, [], a)] := by simpa [scanN, scanS] using h.symm
    subst hl
    refine ⟨fun w hw => ?_, List.pairwise_singleton _ _⟩
    rw [List.mem_singleton] at hw
    subst hw
    exact ⟨Nat.le_refl _, Nat.le_add_right _ _⟩
  | f + 1, c :: r, a, l, h => by
    by_cases hc : c = 32
    · have h2 : scanN f r (a + 1) = some l := by
        have h3 : scanS numB refB validB (f + 1) (c :: r) a = some l := h
        unfold scanS at h3
        simp only at h3
        rw [if_pos hc] at h3
        exact h3
      obtain ⟨h4, h5⟩ := scan_places f r (a + 1) l h2
      refine ⟨fun w hw => ?_, h5⟩
      have := h4 w hw
      rw [List.length_cons]
      omega
    · obtain ⟨f1, k, t, m, l1, e, hn, h1, hl⟩ := scan_some numB refB validB (f + 1) a c r hc l h
      obtain rfl : f = f1 := by omega
      obtain ⟨hm0, hm1⟩ := next_len numB refB validB _ k t m hn
      obtain ⟨h4, h5⟩ := scan_places f _ (a + m) l1 h1
      subst hl
      refine ⟨fun w hw => ?_, List.pairwise_cons.2 ⟨fun w hw => ?_, h5⟩⟩
      · rcases List.mem_cons.1 hw with rfl | hw
        · exact ⟨Nat.le_refl _, Nat.le_add_right _ _⟩
        · have := h4 w hw
          rw [List.length_drop] at this
          omega
      · have := h4 w hw
        show a ≤ w.2.2
        omega
end Go.Proofs.YtpabggjnkoehfaaDoor.LexR
end
section
namespace Go.Proofs.YtpabggjnkoehfaaDoor.LexR
open Go.RowKit Go.Lib Go.Proofs.YtpabggjnkoehfaaDoorW.PrintWords Go.Proofs.YtpabggjnkoehfaaDoor.ExtL Go.Proofs.YtpabggjnkoehfaaDoor.ELex Go.Proofs.YtpabggjnkoehfaaDoor.Lx
set_option linter.unusedVariables false
theorem scan_count : ∀ (f : Nat) (s : B) (a : Nat) (l : List (Int × B × Nat)), scanN f s a = some l → l ≠ [] ∧ l.length ≤ s.length + 1
  | 0, s, a, l, h => by simp [scanN, scanS] at h
  | f + 1, [], a, l, h => by
    have hl : l = [(7, [], a)] := by simpa [scanN, scanS] using h.symm
    subst hl
    exact ⟨by simp, Nat.le_refl _⟩
  | f + 1, c :: r, a, l, h => by
    by_cases hc : c = 32
    · have h2 : scanN f r (a + 1) = some l := by
        have h3 : scanS numB refB validB (f + 1) (c :: r) a = some l := h
        unfold scanS at h3
        simp only at h3
        rw [if_pos hc] at h3
        exact h3
      obtain ⟨h4, h5⟩ := scan_count f r (a + 1) l h2
      refine ⟨h4, ?_⟩
      rw [List.length_cons]
      omega
    · obtain ⟨f1, k, t, m, l1, e, hn, h1, hl⟩ := scan_some numB refB validB (f + 1) a c r hc l h
      obtain rfl : f = f1 := by omega
      obtain ⟨hm0, hm1⟩ := next_len numB refB validB _ k t m hn
      obtain ⟨h4, h5⟩ := scan_count f _ (a + m) l1 h1
      subst hl
      refine ⟨by simp, ?_⟩
      rw [List.length_drop] at h5
      rw [List.length_cons]
      omega
theorem rdW (l : List (Int × B × Nat)) (i : Nat) (h : i < l.length) : rd_T43 (l.map toW) (i : Int) = toW l[i] := by
  unfold rd_T43
  rw [Int.toNat_natCast, List.getD_eq_getElem?_getD, List.getElem?_map, List.getElem?_eq_getElem h]
  rfl
theorem same_l (l m : List (Int × B × Nat)) (hw : words m = words l) (hl : l.length ≤ 2000) : ∀ (d i : Nat), i + d = l.length → ∀ k, d + 1 ≤ k → counterpanelaw6_LexBlanks.l1 k true (l.map toW) (m.map toW) (i : Int) = some true
  | 0, i, hi, k, hk => by
    obtain ⟨q, rfl⟩ : ∃ q, k = q + 1 := ⟨k - 1, by omega⟩
    rw [counterpanelaw6_LexBlanks.l1, if_neg (by rw [List.length_map]; omega)]
  | d + 1, i, hi, k, hk => by
    obtain ⟨q, rfl⟩ : ∃ q, k = q + 1 := ⟨k - 1, by omega⟩
    have hml : m.length = l.length := by
      have := congrArg List.length hw
      rw [List.length_map, List.length_map] at this
      exact this
    have h1 : i < l.length := by omega
    have h2 : i < m.length := by omega
    have he : (m[i].1, m[i].2.1) = (l[i].1, l[i].2.1) := by
      have e1 : (words m)[i]? = (words l)[i]? := by rw [hw]
      rw [List.getElem?_map, List.getElem?_map, List.getElem?_eq_getElem h1, List.getElem?_eq_getElem h2] at e1
      exact Option.some.inj e1
    obtain ⟨hk1, hk2⟩ := Prod.mk.injEq .. ▸ he
    have ih := same_l l m hw hl d (i + 1) (by omega) q (by omega)
    have e2 : wrap64 ((i : Int) + 1) = ((i + 1 : Nat) : Int) := by rw [wr _ (by omega) (by omega)]; rfl
    rw [counterpanelaw6_LexBlanks.l1, if_pos (by rw [List.length_map]; omega), if_pos (by omega), if_pos (by rw [List.length_map]; omega), rdW l i h1, rdW m i h2, if_pos (by unfold toW; exact hk1.symm), if_pos (by unfold toW; rw [hk2]), e2]
    exact ih
theorem build_l (y : ByteArray) (hy : (bs y).length ≤ 200) (n : Nat) (hn : n ≤ 3) (l : List (Int × B × Nat)) (hp : ∀ w ∈ l, w.2.2 ≤ (bs y).length) (ho : l.Pairwise (fun v w => v.2.2 ≤ w.2.2)) (hl : l.length ≤ 2000) (b : Bool) : ∀ (d i : Nat), i + d + 1 = l.length → ∀ (k : Nat) (acc : ByteArray), acc.size ≤ 100000 * i →
    counterpanelaw6_LexBlanks.l0 (k + d) y (n : Int) b (l.map toW) acc (i : Int) = counterpanelaw6_LexBlanks.l0 k y (n : Int) b (l.map toW) (acc ++ baOf (build n (bs y) (l.drop i))) ((l.length - 1 : Nat) : Int)
  | 0, i, hi, k, acc, ha => by
    have e : l.drop i = [l[i]'(by omega)] := by
      rw [List.drop_eq_getElem_cons (by omega), List.drop_of_length_le (by omega)]
    rw [e, show build n (bs y) [l[i]'(by omega)] = [] from rfl, show acc ++ baOf [] = acc from by apply bs_inj; rw [bs_app, bs_baOf, List.append_nil], show l.length - 1 = i by omega]
    rfl
  | d + 1, i, hi, k, acc, ha => by
    have hlen := bs_len y
    have h1 : i < l.length := by omega
    have h2 : i + 1 < l.length := by omega
    obtain ⟨u, hu⟩ : ∃ u, l[i] = u := ⟨_, rfl⟩
    obtain ⟨v, hv⟩ : ∃ v, l[i + 1] = v := ⟨_, rfl⟩
    have hdr : l.drop i = u :: v :: l.drop (i + 2) := by
      rw [List.drop_eq_getElem_cons h1, List.drop_eq_getElem_cons h2, hu, hv]
    have hdr1 : l.drop (i + 1) = v :: l.drop (i + 2) := by
      rw [List.drop_eq_getElem_cons h2, hv]
    have huv : u.2.2 ≤ v.2.2 := by
      rw [← hu, ← hv]
      exact List.pairwise_iff_getElem.1 ho i (i + 1) h1 h2 (by omega)
    have hv2 : v.2.2 ≤ (bs y).length := hp v (hv ▸ List.getElem_mem h2)
    have e2 : wrap64 ((i : Int) + 1) = ((i + 1 : Nat) : Int) := by rw [wr _ (by omega) (by omega)]; rfl
    obtain ⟨mid, hmid⟩ : ∃ mid : ByteArray, y.extract u.2.2 v.2.2 = mid := ⟨_, rfl⟩
    have hmb : bs mid = ((bs y).drop u.2.2).take (v.2.2 - u.2.2) := by rw [← hmid, bs_ext]
    have hms : mid.size ≤ 200 := by
      rw [← bs_len, hmb, List.length_take, List.length_drop]
      omega
    show counterpanelaw6_LexBlanks.l0 ((k + d) + 1) y (n : Int) b (l.map toW) acc (i : Int) = _
    rw [counterpanelaw6_LexBlanks.l0, e2, if_pos (by rw [List.length_map]; omega), if_pos (by omega), if_pos (by rw [List.length_map]; omega), if_pos (by omega), rdW l i h1, rdW l (i + 1) h2, hu, hv]
    have c1 : (toW u).f2 = (u.2.2 : Int) := rfl
    have c2 : (toW v).f2 = (v.2.2 : Int) := rfl
    have c0 : (toW u).f0 = u.1 := rfl
    rw [c1, c2, c0, if_pos (by omega), if_pos (by omega), if_pos (by omega), Int.toNat_natCast, Int.toNat_natCast, hmid, if_pos (by omega)]
    have hb : build n (bs y) (l.drop i) = bs mid ++ ((if u.1 = 4 then [] else List.replicate n 32) ++ build n (bs y) (l.drop (i + 1))) := by
      rw [hdr, hdr1, hmb]
      rfl
    by_cases h4 : u.1 = 4
    · have ih := build_l y hy n hn l hp ho hl b d (i + 1) (by omega) k (acc ++ mid) (by rw [ByteArray.size_append]; omega)
      rw [if_pos h4, ih]
      congr 1
      apply bs_inj
      rw [hb, if_pos h4, bs_app, bs_app, bs_app, bs_baOf, bs_baOf, List.nil_append, List.append_assoc]
    · obtain ⟨sp, hsp⟩ : ∃ sp : ByteArray, (⟨#[32, 32, 32]⟩ : ByteArray).extract 0 n = sp := ⟨_, rfl⟩
      have hspb : bs sp = List.replicate n 32 := by
        rw [← hsp, bs_ext]
        have : n = 0 ∨ n = 1 ∨ n = 2 ∨ n = 3 := by omega
        rcases this with rfl | rfl | rfl | rfl <;> rfl
      have hss : sp.size ≤ 3 := by rw [← bs_len, hspb, List.length_replicate]; exact hn
      have ih := build_l y hy n hn l hp ho hl b d (i + 1) (by omega) k ((acc ++ mid) ++ sp) (by rw [ByteArray.size_append, ByteArray.size_append]; omega)
      rw [if_neg h4, if_pos (by omega), if_pos (by omega), Int.toNat_natCast, hsp, if_pos (by rw [ByteArray.size_append]; omega), ih]
      congr 1
      apply bs_inj
      rw [hb, if_neg h4, bs_app, bs_app, bs_app, bs_app, bs_baOf, bs_baOf, hspb, List.append_assoc, List.append_assoc]
theorem short_f (x : ByteArray) : ∃ y, counterpanelaw5_Short.f x 200 = some y ∧ (bs y).length ≤ 200 := by
  have hlen := bs_len x
  unfold counterpanelaw5_Short.f
  by_cases c : (x.size : Int) > 200
  · rw [if_pos c, if_pos (by omega), if_pos (by omega)]
    refine ⟨_, rfl, ?_⟩
    rw [bs_ext, List.length_take]
    omega
  · rw [if_neg c]
    exact ⟨x, rfl, by omega⟩
theorem law_j (y : ByteArray) (hy : (bs y).length ≤ 200) (n : Nat) (hn : n ≤ 3) : counterpanelaw6_LexBlanks.j1 20000 y (n : Int) true = some true := by
  obtain ⟨p, h1, h2⟩ := scan_f y (by omega) 19999 (by omega)
  rw [counterpanelaw6_LexBlanks.j1, h1, Option.bind_some]
  cases hs : scanN ((bs y).length + 1) (bs y) 0 with
  | none =>
    rw [hs] at h2
    have h3 : p.2.2 = false := h2
    rw [h3]
    rfl
  | some l =>
    rw [hs] at h2
    have h3 : p = (l.map toW, 0, true) := h2
    subst h3
    dsimp only
    rw [if_pos rfl]
    obtain ⟨hne, hc⟩ := scan_count _ _ _ _ hs
    obtain ⟨hp, ho⟩ := scan_places _ _ _ _ hs
    have hpos : 0 < l.length := List.length_pos_iff.2 hne
    obtain ⟨d, hd⟩ : ∃ d, l.length = d + 1 := ⟨l.length - 1, by omega⟩
    obtain ⟨k, hk⟩ : ∃ k, 19999 = k + d := ⟨19999 - d, by omega⟩
    have hb := build_l y hy n hn l (fun w hw => by have := (hp w hw).2; omega) ho (by omega) true d 0 (by omega) k (⟨#[]⟩ : ByteArray) (Nat.le_refl _)
    rw [hk]
    rw [show ((0 : Nat) : Int) = 0 from rfl] at hb
    rw [hb, List.drop_zero]
    have e0 : (⟨#[]⟩ : ByteArray) ++ baOf (build n (bs y) l) = baOf (build n (bs y) l) := by apply bs_inj; rw [bs_app]; rfl
    rw [e0]
    obtain ⟨hlen, f0, hf⟩ := blanks_law numB refB validB n (bs y) _ l hs
    have hlen2 : (bs (baOf (build n (bs y) l))).length ≤ 1000 := by
      rw [bs_baOf]
      have : (n + 1) * (bs y).length ≤ 4 * 200 := Nat.mul_le_mul (by omega) hy
      omega
    obtain ⟨k, rfl⟩ : ∃ q, k = q + 1 := ⟨k - 1, by omega⟩
    obtain ⟨p2, g1, g2⟩ := scan_f (baOf (build n (bs y) l)) hlen2 k (by omega)
    rw [bs_baOf] at g2
    obtain ⟨m, hm, hw⟩ := hf (f0 + (build n (bs y) l).length + 1) (by omega)
    have hm2 : scanN ((build n (bs y) l).length + 1) (build n (bs y) l) 0 = some m := by
      rw [scan_mono _ (f0 + (build n (bs y) l).length + 1) _ _ (by omega) (by omega)]
      exact hm
    rw [hm2] at g2
    have g3 : p2 = (m.map toW, 0, true) := g2
    subst g3
    have e2 : wrap64 (((l.length - 1 : Nat) : Int) + 1) = (l.length : Int) := by rw [wr _ (by omega) (by omega)]; omega
    rw [counterpanelaw6_LexBlanks.l0, e2, if_neg (by rw [List.length_map]; omega), g1, Option.bind_some]
    dsimp only
    rw [if_pos rfl]
    have hml : m.length = l.length := by
      have := congrArg List.length hw
      rw [List.length_map, List.length_map] at this
      exact this
    have e3 : (((m.map toW).length : Int) != ((l.map toW).length : Int)) = false := by
      rw [List.length_map, List.length_map, hml]
      simp
    rw [e3]
    obtain ⟨k, rfl⟩ : ∃ q, k = q + 1 := ⟨k - 1, by omega⟩
    rw [counterpanelaw6_LexBlanks.j3, if_neg (by simp)]
    exact same_l l m hw (by omega) l.length 0 (by omega) k (by omega)
theorem law_f (x : ByteArray) (n : Int) : counterpanelaw6_LexBlanks.f 20001 x n = some true := by
  unfold counterpanelaw6_LexBlanks.f
  obtain ⟨y, h1, h2⟩ := short_f x
  rw [begun_f 20001 (by omega), Option.bind_some, if_pos rfl, h1, Option.bind_some]
  by_cases c : n < 0
  · rw [if_pos c, counterpanelaw6_LexBlanks.j0, if_pos rfl]
    exact law_j y h2 1 (by omega)
  · rw [if_neg c]
    by_cases c3 : n > 3
    · rw [decide_eq_true c3, counterpanelaw6_LexBlanks.j0, if_pos rfl]
      exact law_j y h2 1 (by omega)
    · rw [decide_eq_false c3, counterpanelaw6_LexBlanks.j0, if_neg (by simp)]
      obtain ⟨m, rfl⟩ : ∃ m : Nat, n = (m : Int) := ⟨n.toNat, by omega⟩
      exact law_j y h2 m (by omega)
end Go.Proofs.YtpabggjnkoehfaaDoor.LexR
end
section
namespace Go.Proofs.YtpabggjnkoehfaaDoor.LexR
open Go.RowKit Go.Lib Go.Proofs.YtpabggjnkoehfaaDoorW.PrintWords
theorem lexBlanks_walk (a0 : ByteArray) (a1 : Int) (w : World) (hL : Aside0 (ExtL.Lq w)) :
    Calls Tryd.prog 6 #[.string a0, .int .i64 a1] w fun e w' => e = .returned (.bool true) ∧ Below w.heap.size w w' :=
  ELex.counterpanelaw6_LexBlanks.calls 20001 a0 a1 true w hL (law_f a0 a1)
end Go.Proofs.YtpabggjnkoehfaaDoor.LexR
end
