-- Written by extprint.py (wip/tools) out of the translation; Lean checks it.
import Derived.Test.YtkcncfikejepdaaDoorEFix0
import Derived.Test.YtkcncfikejepdaaDoorEFix1
namespace Go.Proofs.YtkcncfikejepdaaDoor.EFix
open Go.RowKit Go.Proofs.YtkcncfikejepdaaDoor.Ext Go.Proofs.YtkcncfikejepdaaDoor.EFxA Go.Proofs.YtkcncfikejepdaaDoorW.PrintWords Go.Proofs.YtkcncfikejepdaaDoorW.PrintLast Go.Proofs.YtkcncfikejepdaaDoorW.PrintMore
attribute [local go_sem] max2_int min2_int max_two min_two max_three min_three max_four min_four   -- for this text's walks alone
set_option linter.unusedVariables false
set_option linter.unusedSimpArgs false

/-! ### counterpanelaw1_FixCut: function 4 -/
def counterpanelaw1_FixCut.j0 : Nat → Bool → Int → Int → Int → Bool → Option (Bool)
  | 0, _, _, _, _, _ => none
  | k + 1, x5, x8, x9, x12, x56 => if x56 = true then (some false) else (if (wrap64 (x8 - x12)) < 0 then (if x9 < 0 then (if x12 = 0 then (if x5 = true then (some (decide ((wrap64 (-(wrap64 (x8 - x12)))) < (wrap64 (-x9))))) else (some false)) else (if x5 = true then (if ((decide (x12 < 0)) == (decide (x8 < 0))) = true then (some (decide ((wrap64 (-(wrap64 (x8 - x12)))) < (wrap64 (-x9))))) else (some false)) else (some false))) else (if x12 = 0 then (if x5 = true then (some (decide ((wrap64 (-(wrap64 (x8 - x12)))) < x9))) else (some false)) else (if x5 = true then (if ((decide (x12 < 0)) == (decide (x8 < 0))) = true then (some (decide ((wrap64 (-(wrap64 (x8 - x12)))) < x9))) else (some false)) else (some false)))) else (if x9 < 0 then (if x12 = 0 then (if x5 = true then (some (decide ((wrap64 (x8 - x12)) < (wrap64 (-x9))))) else (some false)) else (if x5 = true then (if ((decide (x12 < 0)) == (decide (x8 < 0))) = true then (some (decide ((wrap64 (x8 - x12)) < (wrap64 (-x9))))) else (some false)) else (some false))) else (if x12 = 0 then (if x5 = true then (some (decide ((wrap64 (x8 - x12)) < x9))) else (some false)) else (if x5 = true then (if ((decide (x12 < 0)) == (decide (x8 < 0))) = true then (some (decide ((wrap64 (x8 - x12)) < x9))) else (some false)) else (some false)))))
def counterpanelaw1_FixCut.f (k : Nat) (a0 : Int) (a1 : Int) : Option (Bool) := (counterpanelaw1_begun.f k).bind fun t143 => (if t143 = true then (if a1 = 0 then ((fixnum_Div.f (wrap64 (a0)) 0).bind fun bt144 => (some (!bt144.2))) else ((fixnum_Div.f (wrap64 ((wrap64 (a0)) * 10000)) (wrap64 ((wrap64 (a1)) * 10000))).bind fun bt146 => ((fixnum_Mul.f bt146.1 (wrap64 ((wrap64 (a1)) * 10000))).bind fun bt148 => (if bt146.2 = true then (counterpanelaw1_FixCut.j0 k t143 (wrap64 ((wrap64 (a0)) * 10000)) (wrap64 ((wrap64 (a1)) * 10000)) bt148.1 (!bt148.2)) else (counterpanelaw1_FixCut.j0 k t143 (wrap64 ((wrap64 (a0)) * 10000)) (wrap64 ((wrap64 (a1)) * 10000)) bt148.1 true))))) else (some false))
theorem counterpanelaw1_FixCut.mono_l : ∀ k, (∀ y0 y1 y2 y3 y4, LeO (counterpanelaw1_FixCut.j0 k y0 y1 y2 y3 y4) (counterpanelaw1_FixCut.j0 (k + 1) y0 y1 y2 y3 y4))
  | 0 => fun _ _ _ _ _ r h => by simp [counterpanelaw1_FixCut.j0] at h
  | k + 1 => by
    have ih0 := counterpanelaw1_FixCut.mono_l k
    · intro y0 y1 y2 y3 y4
      unfold counterpanelaw1_FixCut.j0
      repeat' first
      | (with_reducible exact ih0 _ _ _ _ _)
      | (with_reducible exact counterpanelaw1_begun.mono _)
      | (with_reducible exact LeO.refl _)
      | (with_reducible exact LeO.none _)
      | (with_reducible refine LeO.ite ?_ ?_)
      | (with_reducible refine LeO.bind ?_ (fun _ => ?_))
      | exact ih0 _ _ _ _ _
      | exact counterpanelaw1_begun.mono _
      | exact LeO.none _
      | refine LeO.ite ?_ ?_
      | refine LeO.bind ?_ (fun _ => ?_)
theorem counterpanelaw1_FixCut.mono : ∀ a0 a1 k, LeO (counterpanelaw1_FixCut.f k a0 a1) (counterpanelaw1_FixCut.f (k + 1) a0 a1) := by
  intro a0 a1 k
  have ih0 := counterpanelaw1_FixCut.mono_l k
  unfold counterpanelaw1_FixCut.f
  repeat' first
      | (with_reducible exact ih0 _ _ _ _ _)
      | (with_reducible exact counterpanelaw1_begun.mono _)
      | (with_reducible exact LeO.refl _)
      | (with_reducible exact LeO.none _)
      | (with_reducible refine LeO.ite ?_ ?_)
      | (with_reducible refine LeO.bind ?_ (fun _ => ?_))
      | exact ih0 _ _ _ _ _
      | exact counterpanelaw1_begun.mono _
      | exact LeO.none _
      | refine LeO.ite ?_ ?_
      | refine LeO.bind ?_ (fun _ => ?_)
set_option maxHeartbeats 8000000 in
set_option maxRecDepth 100000 in
theorem counterpanelaw1_FixCut.calls (k : Nat) (a0 : Int) (a1 : Int) (r : Bool) (w : World) (hL : Aside0 (Lq w)) (h : counterpanelaw1_FixCut.f k a0 a1 = some r) :
    Calls Tryd.prog 4 #[.int .i32 a0, .int .i16 a1] w fun e w' => e = .returned (.bool r) ∧ Below w.heap.size w w' := by
  have HB := Aside0.mk (Below.refl w.heap.size w)
  have H : ((counterpanelaw1_begun.f k).bind fun t143 => (if t143 = true then (if a1 = 0 then ((fixnum_Div.f (wrap64 (a0)) 0).bind fun bt144 => (some (!bt144.2))) else ((fixnum_Div.f (wrap64 ((wrap64 (a0)) * 10000)) (wrap64 ((wrap64 (a1)) * 10000))).bind fun bt146 => ((fixnum_Mul.f bt146.1 (wrap64 ((wrap64 (a1)) * 10000))).bind fun bt148 => (if bt146.2 = true then (counterpanelaw1_FixCut.j0 k t143 (wrap64 ((wrap64 (a0)) * 10000)) (wrap64 ((wrap64 (a1)) * 10000)) bt148.1 (!bt148.2)) else (counterpanelaw1_FixCut.j0 k t143 (wrap64 ((wrap64 (a0)) * 10000)) (wrap64 ((wrap64 (a1)) * 10000)) bt148.1 true))))) else (some false))) = some r := h
  clear h
  replace H := Option.bind_eq_some_iff.mp H
  obtain ⟨t143, A30, H⟩ := H
  replace H : (if t143 = true then (if a1 = 0 then ((fixnum_Div.f (wrap64 (a0)) 0).bind fun bt144 => (some (!bt144.2))) else ((fixnum_Div.f (wrap64 ((wrap64 (a0)) * 10000)) (wrap64 ((wrap64 (a1)) * 10000))).bind fun bt146 => ((fixnum_Mul.f bt146.1 (wrap64 ((wrap64 (a1)) * 10000))).bind fun bt148 => (if bt146.2 = true then (counterpanelaw1_FixCut.j0 k t143 (wrap64 ((wrap64 (a0)) * 10000)) (wrap64 ((wrap64 (a1)) * 10000)) bt148.1 (!bt148.2)) else (counterpanelaw1_FixCut.j0 k t143 (wrap64 ((wrap64 (a0)) * 10000)) (wrap64 ((wrap64 (a1)) * 10000)) bt148.1 true))))) else (some false)) = some r := H
  have A3 := Aside0.mk A30
  clear A30
  by_cases c4 : t143 = true
  · subst c4
    have H1 : (if a1 = 0 then ((fixnum_Div.f (wrap64 (a0)) 0).bind fun bt144 => (some (!bt144.2))) else ((fixnum_Div.f (wrap64 ((wrap64 (a0)) * 10000)) (wrap64 ((wrap64 (a1)) * 10000))).bind fun bt146 => ((fixnum_Mul.f bt146.1 (wrap64 ((wrap64 (a1)) * 10000))).bind fun bt148 => (if bt146.2 = true then (counterpanelaw1_FixCut.j0 k true (wrap64 ((wrap64 (a0)) * 10000)) (wrap64 ((wrap64 (a1)) * 10000)) bt148.1 (!bt148.2)) else (counterpanelaw1_FixCut.j0 k true (wrap64 ((wrap64 (a0)) * 10000)) (wrap64 ((wrap64 (a1)) * 10000)) bt148.1 true))))) = some r := by rw [if_pos rfl] at H; exact H
    clear H
    have H := H1
    clear H1
    by_cases c5 : a1 = 0
    · rw [if_pos c5] at H
      have c5b0 : (a1 == 0) = true := beq_iff_eq.mpr c5
      have c5b1 : (a1 != 0) = false := bne_eq_false_iff_eq.mpr c5
      clear c5
      replace H := Option.bind_eq_some_iff.mp H
      obtain ⟨⟨t144, t145⟩, A60, H⟩ := H
      replace H : (some (!t145)) = some r := H
      have A6 := Aside0.mk A60
      clear A60
      obtain rfl := Option.some.inj H
      go_enter Tryd.func4, Tryd.ntmps4
      go_wp2_with (first | ((with_reducible refine gate_callee (f := 9) rfl ?_); refine goesL_ (some 17) rfl rfl Tryd.func9 (by kernel_rfl) rfl #[] rfl (by (try simp only [List.map_toArray, List.map_cons, List.map_nil]); first | done | rfl | (simp only [List.length_drop, List.length_take]; rfl)) ?_; (with_reducible refine (counterpanelaw1_begun.calls (hL := ⟨by first | exact hL.out | (refine hL.out.drawn ?_; (repeat (first | exact Drawn0.refl _ | apply Drawn0.step)); done) | (refine hL.out.below ?_; (repeat (first | (with_reducible first | exact HB.out | apply below_alloc | apply pw_below_drewN | apply below_drew1) | exact HB.out)); done)⟩) k  true _ A3.out).mono ?_); rintro e w7 ⟨rfl, hb⟩; refine ⟨_, rfl, ?_⟩; have n0_ := Aside0.mk (below_step (by repeat (first | (with_reducible first | exact HB.out | apply below_alloc | apply pw_below_drewN | apply below_drew1) | exact HB.out)) hb); clear HB; have HB := n0_; clear n0_; (try clear hb); (try clear hb2); (try clear hk); (try clear hi)) | ((with_reducible refine gate_callee (f := 12) rfl ?_); refine goesL_ (some 25) rfl rfl Tryd.func12 (by kernel_rfl) rfl #[.int .i64 (wrap64 (a0)), .int .i64 0] rfl (by (try simp only [List.map_toArray, List.map_cons, List.map_nil]); first | done | rfl | (simp only [List.length_drop, List.length_take]; rfl)) ?_; (with_reducible refine (fixnum_Div.calls (wrap64 (a0)) 0 t144 t145 _ A6.out).mono ?_); rintro e w' ⟨rfl, ⟨nd, rfl⟩⟩; refine ⟨_, rfl, ?_⟩))
      go_ret
      exact ⟨by first | rfl | (simp [errW_none, errW_some] <;> rfl) | (simp [*, errW_none, errW_some] <;> rfl) | (simp [*, errW_none, errW_some] <;> (generalize ByteArray.toList _ = l_; cases l_ <;> rfl)), by repeat (first | (with_reducible first | exact HB.out | apply below_alloc | apply pw_below_drewN | apply below_drew1) | exact HB.out)⟩
    · rw [if_neg c5] at H
      have c5b0 : (a1 == 0) = false := beq_eq_false_iff_ne.mpr c5
      have c5b1 : (a1 != 0) = true := bne_iff_ne.mpr c5
      replace H := Option.bind_eq_some_iff.mp H
      obtain ⟨⟨t146, t147⟩, A80, H⟩ := H
      replace H : ((fixnum_Mul.f t146 (wrap64 ((wrap64 (a1)) * 10000))).bind fun bt148 => (if t147 = true then (counterpanelaw1_FixCut.j0 k true (wrap64 ((wrap64 (a0)) * 10000)) (wrap64 ((wrap64 (a1)) * 10000)) bt148.1 (!bt148.2)) else (counterpanelaw1_FixCut.j0 k true (wrap64 ((wrap64 (a0)) * 10000)) (wrap64 ((wrap64 (a1)) * 10000)) bt148.1 true))) = some r := H
      have A8 := Aside0.mk A80
      clear A80
      replace H := Option.bind_eq_some_iff.mp H
      obtain ⟨⟨t148, t149⟩, A90, H⟩ := H
      replace H : (if t147 = true then (counterpanelaw1_FixCut.j0 k true (wrap64 ((wrap64 (a0)) * 10000)) (wrap64 ((wrap64 (a1)) * 10000)) t148 (!t149)) else (counterpanelaw1_FixCut.j0 k true (wrap64 ((wrap64 (a0)) * 10000)) (wrap64 ((wrap64 (a1)) * 10000)) t148 true)) = some r := H
      have A9 := Aside0.mk A90
      clear A90
      have HC10 := Aside0.mk H
      clear H
      go_enter Tryd.func4, Tryd.ntmps4
      go_upto_region 10 with (first | ((with_reducible refine gate_callee (f := 9) rfl ?_); refine goesL_ (some 17) rfl rfl Tryd.func9 (by kernel_rfl) rfl #[] rfl (by (try simp only [List.map_toArray, List.map_cons, List.map_nil]); first | done | rfl | (simp only [List.length_drop, List.length_take]; rfl)) ?_; (with_reducible refine (counterpanelaw1_begun.calls (hL := ⟨by first | exact hL.out | (refine hL.out.drawn ?_; (repeat (first | exact Drawn0.refl _ | apply Drawn0.step)); done) | (refine hL.out.below ?_; (repeat (first | (with_reducible first | exact HB.out | apply below_alloc | apply pw_below_drewN | apply below_drew1) | exact HB.out)); done)⟩) k  true _ A3.out).mono ?_); rintro e w11 ⟨rfl, hb⟩; refine ⟨_, rfl, ?_⟩; have n0_ := Aside0.mk (below_step (by repeat (first | (with_reducible first | exact HB.out | apply below_alloc | apply pw_below_drewN | apply below_drew1) | exact HB.out)) hb); clear HB; have HB := n0_; clear n0_; (try clear hb); (try clear hb2); (try clear hk); (try clear hi)) | ((with_reducible refine gate_callee (f := 12) rfl ?_); refine goesL_ (some 42) rfl rfl Tryd.func12 (by kernel_rfl) rfl #[.int .i64 (wrap64 ((wrap64 (a0)) * 10000)), .int .i64 (wrap64 ((wrap64 (a1)) * 10000))] rfl (by (try simp only [List.map_toArray, List.map_cons, List.map_nil]); first | done | rfl | (simp only [List.length_drop, List.length_take]; rfl)) ?_; (with_reducible refine (fixnum_Div.calls (wrap64 ((wrap64 (a0)) * 10000)) (wrap64 ((wrap64 (a1)) * 10000)) t146 t147 _ A8.out).mono ?_); rintro e w' ⟨rfl, ⟨nd, rfl⟩⟩; refine ⟨_, rfl, ?_⟩) | ((with_reducible refine gate_callee (f := 13) rfl ?_); refine goesL_ (some 48) rfl rfl Tryd.func13 (by kernel_rfl) rfl #[.int .i64 t146, .int .i64 (wrap64 ((wrap64 (a1)) * 10000))] rfl (by (try simp only [List.map_toArray, List.map_cons, List.map_nil]); first | done | rfl | (simp only [List.length_drop, List.length_take]; rfl)) ?_; (with_reducible refine (fixnum_Mul.calls t146 (wrap64 ((wrap64 (a1)) * 10000)) t148 t149 _ A9.out).mono ?_); rintro e w' ⟨rfl, ⟨nd, rfl⟩⟩; refine ⟨_, rfl, ?_⟩))
      (try simp only [Act.put, List.setIfInBounds_toArray, List.set_cons_zero, List.set_cons_succ])
      go_cut [56] (fun v56 wc => ∃ (kq : Nat) (x56_9 : Bool), v56 = .bool x56_9 ∧ Aside0 (counterpanelaw1_FixCut.j0 kq true (wrap64 ((wrap64 (a0)) * 10000)) (wrap64 ((wrap64 (a1)) * 10000)) t148 x56_9 = some r) ∧ Aside0 (kq ≤ k) ∧ Aside0 (Below w.heap.size w wc))
      case first =>
        have H := HC10.out
        clear HC10
        by_cases c12 : t147 = true
        · subst c12
          have H1 : (counterpanelaw1_FixCut.j0 k true (wrap64 ((wrap64 (a0)) * 10000)) (wrap64 ((wrap64 (a1)) * 10000)) t148 (!t149)) = some r := by rw [if_pos rfl] at H; exact H
          clear H
          have H := H1
          clear H1
          have H' := Aside0.mk H
          clear H
          go_wp2
          go_meet
          case rel => exact ⟨_, (!t149), (by first | rfl | (simp; done) | (simp [*]; done)), H', ⟨by first | omega | exact Nat.le_refl _⟩, ⟨by repeat (first | (with_reducible first | exact HB.out | apply below_alloc | apply pw_below_drewN | apply below_drew1) | exact HB.out)⟩⟩
        · replace c12 := Bool.eq_false_iff.mpr c12
          subst c12
          have H1 : (counterpanelaw1_FixCut.j0 k true (wrap64 ((wrap64 (a0)) * 10000)) (wrap64 ((wrap64 (a1)) * 10000)) t148 true) = some r := by rw [if_neg (show ¬ (false = true) by decide)] at H; exact H
          clear H
          have H := H1
          clear H1
          have H' := Aside0.mk H
          clear H
          go_wp2
          go_meet
          case rel => exact ⟨_, (true), (by first | rfl | (simp; done) | (simp [*]; done)), H', ⟨by first | omega | exact Nat.le_refl _⟩, ⟨by repeat (first | (with_reducible first | exact HB.out | apply below_alloc | apply pw_below_drewN | apply below_drew1) | exact HB.out)⟩⟩
      case rest =>
        clear HC10
        try clear c1
        try clear p2
        try clear c4
        try clear c5
        try clear c5b0
        try clear c5b1
        try clear p6
        try clear c9
        try clear c12
        obtain ⟨kq, x56_9, rfl, HA, HJ9, HB⟩ := hcut
        cases kq with
        | zero => exact absurd HA.out (by simp [counterpanelaw1_FixCut.j0])
        | succ kj9 =>
          have H := HA.out
          clear HA
          simp only [counterpanelaw1_FixCut.j0] at H
          by_cases c13 : x56_9 = true
          · subst c13
            have H1 : (some false) = some r := by rw [if_pos rfl] at H; exact H
            clear H
            have H := H1
            clear H1
            obtain rfl := Option.some.inj H
            go_wp2
            go_ret
            exact ⟨by first | rfl | (simp [errW_none, errW_some] <;> rfl) | (simp [*, errW_none, errW_some] <;> rfl) | (simp [*, errW_none, errW_some] <;> (generalize ByteArray.toList _ = l_; cases l_ <;> rfl)), by repeat (first | (with_reducible first | exact HB.out | apply below_alloc | apply pw_below_drewN | apply below_drew1) | exact HB.out)⟩
          · replace c13 := Bool.eq_false_iff.mpr c13
            subst c13
            have H1 : (if (wrap64 ((wrap64 ((wrap64 (a0)) * 10000)) - t148)) < 0 then (if (wrap64 ((wrap64 (a1)) * 10000)) < 0 then (if t148 = 0 then (if true = true then (some (decide ((wrap64 (-(wrap64 ((wrap64 ((wrap64 (a0)) * 10000)) - t148)))) < (wrap64 (-(wrap64 ((wrap64 (a1)) * 10000))))))) else (some false)) else (if true = true then (if ((decide (t148 < 0)) == (decide ((wrap64 ((wrap64 (a0)) * 10000)) < 0))) = true then (some (decide ((wrap64 (-(wrap64 ((wrap64 ((wrap64 (a0)) * 10000)) - t148)))) < (wrap64 (-(wrap64 ((wrap64 (a1)) * 10000))))))) else (some false)) else (some false))) else (if t148 = 0 then (if true = true then (some (decide ((wrap64 (-(wrap64 ((wrap64 ((wrap64 (a0)) * 10000)) - t148)))) < (wrap64 ((wrap64 (a1)) * 10000))))) else (some false)) else (if true = true then (if ((decide (t148 < 0)) == (decide ((wrap64 ((wrap64 (a0)) * 10000)) < 0))) = true then (some (decide ((wrap64 (-(wrap64 ((wrap64 ((wrap64 (a0)) * 10000)) - t148)))) < (wrap64 ((wrap64 (a1)) * 10000))))) else (some false)) else (some false)))) else (if (wrap64 ((wrap64 (a1)) * 10000)) < 0 then (if t148 = 0 then (if true = true then (some (decide ((wrap64 ((wrap64 ((wrap64 (a0)) * 10000)) - t148)) < (wrap64 (-(wrap64 ((wrap64 (a1)) * 10000))))))) else (some false)) else (if true = true then (if ((decide (t148 < 0)) == (decide ((wrap64 ((wrap64 (a0)) * 10000)) < 0))) = true then (some (decide ((wrap64 ((wrap64 ((wrap64 (a0)) * 10000)) - t148)) < (wrap64 (-(wrap64 ((wrap64 (a1)) * 10000))))))) else (some false)) else (some false))) else (if t148 = 0 then (if true = true then (some (decide ((wrap64 ((wrap64 ((wrap64 (a0)) * 10000)) - t148)) < (wrap64 ((wrap64 (a1)) * 10000))))) else (some false)) else (if true = true then (if ((decide (t148 < 0)) == (decide ((wrap64 ((wrap64 (a0)) * 10000)) < 0))) = true then (some (decide ((wrap64 ((wrap64 ((wrap64 (a0)) * 10000)) - t148)) < (wrap64 ((wrap64 (a1)) * 10000))))) else (some false)) else (some false))))) = some r := by rw [if_neg (show ¬ (false = true) by decide)] at H; exact H
            clear H
            have H := H1
            clear H1
            by_cases c14 : (wrap64 ((wrap64 ((wrap64 (a0)) * 10000)) - t148)) < 0
            · rw [if_pos c14] at H
              have c14b0 : decide ((wrap64 ((wrap64 ((wrap64 (a0)) * 10000)) - t148)) < 0) = true := decide_eq_true c14
              clear c14
              by_cases c15 : (wrap64 ((wrap64 (a1)) * 10000)) < 0
              · rw [if_pos c15] at H
                have c15b0 : decide ((wrap64 ((wrap64 (a1)) * 10000)) < 0) = true := decide_eq_true c15
                clear c15
                by_cases c16 : t148 = 0
                · rw [if_pos c16] at H
                  have c16b0 : (t148 == 0) = true := beq_iff_eq.mpr c16
                  have c16b1 : (t148 != 0) = false := bne_eq_false_iff_eq.mpr c16
                  clear c16
                  by_cases c17 : true = true
                  · clear c17
                    have H1 : (some (decide ((wrap64 (-(wrap64 ((wrap64 ((wrap64 (a0)) * 10000)) - t148)))) < (wrap64 (-(wrap64 ((wrap64 (a1)) * 10000))))))) = some r := by rw [if_pos rfl] at H; exact H
                    clear H
                    have H := H1
                    clear H1
                    obtain rfl := Option.some.inj H
                    go_wp2
                    go_ret
                    exact ⟨by first | rfl | (simp [errW_none, errW_some] <;> rfl) | (simp [*, errW_none, errW_some] <;> rfl) | (simp [*, errW_none, errW_some] <;> (generalize ByteArray.toList _ = l_; cases l_ <;> rfl)), by repeat (first | (with_reducible first | exact HB.out | apply below_alloc | apply pw_below_drewN | apply below_drew1) | exact HB.out)⟩
                  · exact absurd rfl c17
                · rw [if_neg c16] at H
                  have c16b0 : (t148 == 0) = false := beq_eq_false_iff_ne.mpr c16
                  have c16b1 : (t148 != 0) = true := bne_iff_ne.mpr c16
                  by_cases c18 : true = true
                  · clear c18
                    have H1 : (if ((decide (t148 < 0)) == (decide ((wrap64 ((wrap64 (a0)) * 10000)) < 0))) = true then (some (decide ((wrap64 (-(wrap64 ((wrap64 ((wrap64 (a0)) * 10000)) - t148)))) < (wrap64 (-(wrap64 ((wrap64 (a1)) * 10000))))))) else (some false)) = some r := by rw [if_pos rfl] at H; exact H
                    clear H
                    have H := H1
                    clear H1
                    by_cases c19 : ((decide (t148 < 0)) == (decide ((wrap64 ((wrap64 (a0)) * 10000)) < 0))) = true
                    · rw [if_pos c19] at H
                      have c19b0 : ((decide (t148 < 0)) == (decide ((wrap64 ((wrap64 (a0)) * 10000)) < 0))) = true := c19
                      (try (have c19b1 : decide ((decide (t148 < 0)) = (decide ((wrap64 ((wrap64 (a0)) * 10000)) < 0))) = true := by simpa using c19))
                      (try (have c19b2 : ((decide (t148 < 0)) == (decide ((wrap64 ((wrap64 (a0)) * 10000)) < 0))) = true := by simpa using c19))
                      clear c19
                      obtain rfl := Option.some.inj H
                      go_wp2
                      go_ret
                      exact ⟨by first | rfl | (simp [errW_none, errW_some] <;> rfl) | (simp [*, errW_none, errW_some] <;> rfl) | (simp [*, errW_none, errW_some] <;> (generalize ByteArray.toList _ = l_; cases l_ <;> rfl)), by repeat (first | (with_reducible first | exact HB.out | apply below_alloc | apply pw_below_drewN | apply below_drew1) | exact HB.out)⟩
                    · rw [if_neg c19] at H
                      have c19b0 : ((decide (t148 < 0)) == (decide ((wrap64 ((wrap64 (a0)) * 10000)) < 0))) = false := by simpa using c19
                      (try (have c19b1 : decide ((decide (t148 < 0)) = (decide ((wrap64 ((wrap64 (a0)) * 10000)) < 0))) = false := by simpa using c19))
                      (try (have c19b2 : ((decide (t148 < 0)) == (decide ((wrap64 ((wrap64 (a0)) * 10000)) < 0))) = false := by simpa using c19))
                      (try (have c19b3 : ¬ ((decide (t148 < 0)) = (decide ((wrap64 ((wrap64 (a0)) * 10000)) < 0))) := by simpa using c19))
                      clear c19
                      obtain rfl := Option.some.inj H
                      go_wp2
                      go_ret
                      exact ⟨by first | rfl | (simp [errW_none, errW_some] <;> rfl) | (simp [*, errW_none, errW_some] <;> rfl) | (simp [*, errW_none, errW_some] <;> (generalize ByteArray.toList _ = l_; cases l_ <;> rfl)), by repeat (first | (with_reducible first | exact HB.out | apply below_alloc | apply pw_below_drewN | apply below_drew1) | exact HB.out)⟩
                  · exact absurd rfl c18
              · rw [if_neg c15] at H
                have c15b0 : decide ((wrap64 ((wrap64 (a1)) * 10000)) < 0) = false := decide_eq_false c15
                clear c15
                by_cases c20 : t148 = 0
                · rw [if_pos c20] at H
                  have c20b0 : (t148 == 0) = true := beq_iff_eq.mpr c20
                  have c20b1 : (t148 != 0) = false := bne_eq_false_iff_eq.mpr c20
                  clear c20
                  by_cases c21 : true = true
                  · clear c21
                    have H1 : (some (decide ((wrap64 (-(wrap64 ((wrap64 ((wrap64 (a0)) * 10000)) - t148)))) < (wrap64 ((wrap64 (a1)) * 10000))))) = some r := by rw [if_pos rfl] at H; exact H
                    clear H
                    have H := H1
                    clear H1
                    obtain rfl := Option.some.inj H
                    go_wp2
                    go_ret
                    exact ⟨by first | rfl | (simp [errW_none, errW_some] <;> rfl) | (simp [*, errW_none, errW_some] <;> rfl) | (simp [*, errW_none, errW_some] <;> (generalize ByteArray.toList _ = l_; cases l_ <;> rfl)), by repeat (first | (with_reducible first | exact HB.out | apply below_alloc | apply pw_below_drewN | apply below_drew1) | exact HB.out)⟩
                  · exact absurd rfl c21
                · rw [if_neg c20] at H
                  have c20b0 : (t148 == 0) = false := beq_eq_false_iff_ne.mpr c20
                  have c20b1 : (t148 != 0) = true := bne_iff_ne.mpr c20
                  by_cases c22 : true = true
                  · clear c22
                    have H1 : (if ((decide (t148 < 0)) == (decide ((wrap64 ((wrap64 (a0)) * 10000)) < 0))) = true then (some (decide ((wrap64 (-(wrap64 ((wrap64 ((wrap64 (a0)) * 10000)) - t148)))) < (wrap64 ((wrap64 (a1)) * 10000))))) else (some false)) = some r := by rw [if_pos rfl] at H; exact H
                    clear H
                    have H := H1
                    clear H1
                    by_cases c23 : ((decide (t148 < 0)) == (decide ((wrap64 ((wrap64 (a0)) * 10000)) < 0))) = true
                    · rw [if_pos c23] at H
                      have c23b0 : ((decide (t148 < 0)) == (decide ((wrap64 ((wrap64 (a0)) * 10000)) < 0))) = true := c23
                      (try (have c23b1 : decide ((decide (t148 < 0)) = (decide ((wrap64 ((wrap64 (a0)) * 10000)) < 0))) = true := by simpa using c23))
                      (try (have c23b2 : ((decide (t148 < 0)) == (decide ((wrap64 ((wrap64 (a0)) * 10000)) < 0))) = true := by simpa using c23))
                      clear c23
                      obtain rfl := Option.some.inj H
                      go_wp2
                      go_ret
                      exact ⟨by first | rfl | (simp [errW_none, errW_some] <;> rfl) | (simp [*, errW_none, errW_some] <;> rfl) | (simp [*, errW_none, errW_some] <;> (generalize ByteArray.toList _ = l_; cases l_ <;> rfl)), by repeat (first | (with_reducible first | exact HB.out | apply below_alloc | apply pw_below_drewN | apply below_drew1) | exact HB.out)⟩
                    · rw [if_neg c23] at H
                      have c23b0 : ((decide (t148 < 0)) == (decide ((wrap64 ((wrap64 (a0)) * 10000)) < 0))) = false := by simpa using c23
                      (try (have c23b1 : decide ((decide (t148 < 0)) = (decide ((wrap64 ((wrap64 (a0)) * 10000)) < 0))) = false := by simpa using c23))
                      (try (have c23b2 : ((decide (t148 < 0)) == (decide ((wrap64 ((wrap64 (a0)) * 10000)) < 0))) = false := by simpa using c23))
                      (try (have c23b3 : ¬ ((decide (t148 < 0)) = (decide ((wrap64 ((wrap64 (a0)) * 10000)) < 0))) := by simpa using c23))
                      clear c23
                      obtain rfl := Option.some.inj H
                      go_wp2
                      go_ret
                      exact ⟨by first | rfl | (simp [errW_none, errW_some] <;> rfl) | (simp [*, errW_none, errW_some] <;> rfl) | (simp [*, errW_none, errW_some] <;> (generalize ByteArray.toList _ = l_; cases l_ <;> rfl)), by repeat (first | (with_reducible first | exact HB.out | apply below_alloc | apply pw_below_drewN | apply below_drew1) | exact HB.out)⟩
                  · exact absurd rfl c22
            · rw [if_neg c14] at H
              have c14b0 : decide ((wrap64 ((wrap64 ((wrap64 (a0)) * 10000)) - t148)) < 0) = false := decide_eq_false c14
              clear c14
              by_cases c24 : (wrap64 ((wrap64 (a1)) * 10000)) < 0
              · rw [if_pos c24] at H
                have c24b0 : decide ((wrap64 ((wrap64 (a1)) * 10000)) < 0) = true := decide_eq_true c24
                clear c24
                by_cases c25 : t148 = 0
                · rw [if_pos c25] at H
                  have c25b0 : (t148 == 0) = true := beq_iff_eq.mpr c25
                  have c25b1 : (t148 != 0) = false := bne_eq_false_iff_eq.mpr c25
                  clear c25
                  by_cases c26 : true = true
                  · clear c26
                    have H1 : (some (decide ((wrap64 ((wrap64 ((wrap64 (a0)) * 10000)) - t148)) < (wrap64 (-(wrap64 ((wrap64 (a1)) * 10000))))))) = some r := by rw [if_pos rfl] at H; exact H
                    clear H
                    have H := H1
                    clear H1
                    obtain rfl := Option.some.inj H
                    go_wp2
                    go_ret
                    exact ⟨by first | rfl | (simp [errW_none, errW_some] <;> rfl) | (simp [*, errW_none, errW_some] <;> rfl) | (simp [*, errW_none, errW_some] <;> (generalize ByteArray.toList _ = l_; cases l_ <;> rfl)), by repeat (first | (with_reducible first | exact HB.out | apply below_alloc | apply pw_below_drewN | apply below_drew1) | exact HB.out)⟩
                  · exact absurd rfl c26
                · rw [if_neg c25] at H
                  have c25b0 : (t148 == 0) = false := beq_eq_false_iff_ne.mpr c25
                  have c25b1 : (t148 != 0) = true := bne_iff_ne.mpr c25
                  by_cases c27 : true = true
                  · clear c27
                    have H1 : (if ((decide (t148 < 0)) == (decide ((wrap64 ((wrap64 (a0)) * 10000)) < 0))) = true then (some (decide ((wrap64 ((wrap64 ((wrap64 (a0)) * 10000)) - t148)) < (wrap64 (-(wrap64 ((wrap64 (a1)) * 10000))))))) else (some false)) = some r := by rw [if_pos rfl] at H; exact H
                    clear H
                    have H := H1
                    clear H1
                    by_cases c28 : ((decide (t148 < 0)) == (decide ((wrap64 ((wrap64 (a0)) * 10000)) < 0))) = true
                    · rw [if_pos c28] at H
                      have c28b0 : ((decide (t148 < 0)) == (decide ((wrap64 ((wrap64 (a0)) * 10000)) < 0))) = true := c28
                      (try (have c28b1 : decide ((decide (t148 < 0)) = (decide ((wrap64 ((wrap64 (a0)) * 10000)) < 0))) = true := by simpa using c28))
                      (try (have c28b2 : ((decide (t148 < 0)) == (decide ((wrap64 ((wrap64 (a0)) * 10000)) < 0))) = true := by simpa using c28))
                      clear c28
                      obtain rfl := Option.some.inj H
                      go_wp2
                      go_ret
                      exact ⟨by first | rfl | (simp [errW_none, errW_some] <;> rfl) | (simp [*, errW_none, errW_some] <;> rfl) | (simp [*, errW_none, errW_some] <;> (generalize ByteArray.toList _ = l_; cases l_ <;> rfl)), by repeat (first | (with_reducible first | exact HB.out | apply below_alloc | apply pw_below_drewN | apply below_drew1) | exact HB.out)⟩
                    · rw [if_neg c28] at H
                      have c28b0 : ((decide (t148 < 0)) == (decide ((wrap64 ((wrap64 (a0)) * 10000)) < 0))) = false := by simpa using c28
                      (try (have c28b1 : decide ((decide (t148 < 0)) = (decide ((wrap64 ((wrap64 (a0)) * 10000)) < 0))) = false := by simpa using c28))
                      (try (have c28b2 : ((decide (t148 < 0)) == (decide ((wrap64 ((wrap64 (a0)) * 10000)) < 0))) = false := by simpa using c28))
                      (try (have c28b3 : ¬ ((decide (t148 < 0)) = (decide ((wrap64 ((wrap64 (a0)) * 10000)) < 0))) := by simpa using c28))
                      clear c28
                      obtain rfl := Option.some.inj H
                      go_wp2
                      go_ret
                      exact ⟨by first | rfl | (simp [errW_none, errW_some] <;> rfl) | (simp [*, errW_none, errW_some] <;> rfl) | (simp [*, errW_none, errW_some] <;> (generalize ByteArray.toList _ = l_; cases l_ <;> rfl)), by repeat (first | (with_reducible first | exact HB.out | apply below_alloc | apply pw_below_drewN | apply below_drew1) | exact HB.out)⟩
                  · exact absurd rfl c27
              · rw [if_neg c24] at H
                have c24b0 : decide ((wrap64 ((wrap64 (a1)) * 10000)) < 0) = false := decide_eq_false c24
                clear c24
                by_cases c29 : t148 = 0
                · rw [if_pos c29] at H
                  have c29b0 : (t148 == 0) = true := beq_iff_eq.mpr c29
                  have c29b1 : (t148 != 0) = false := bne_eq_false_iff_eq.mpr c29
                  clear c29
                  by_cases c30 : true = true
                  · clear c30
                    have H1 : (some (decide ((wrap64 ((wrap64 ((wrap64 (a0)) * 10000)) - t148)) < (wrap64 ((wrap64 (a1)) * 10000))))) = some r := by rw [if_pos rfl] at H; exact H
                    clear H
                    have H := H1
                    clear H1
                    obtain rfl := Option.some.inj H
                    go_wp2
                    go_ret
                    exact ⟨by first | rfl | (simp [errW_none, errW_some] <;> rfl) | (simp [*, errW_none, errW_some] <;> rfl) | (simp [*, errW_none, errW_some] <;> (generalize ByteArray.toList _ = l_; cases l_ <;> rfl)), by repeat (first | (with_reducible first | exact HB.out | apply below_alloc | apply pw_below_drewN | apply below_drew1) | exact HB.out)⟩
                  · exact absurd rfl c30
                · rw [if_neg c29] at H
                  have c29b0 : (t148 == 0) = false := beq_eq_false_iff_ne.mpr c29
                  have c29b1 : (t148 != 0) = true := bne_iff_ne.mpr c29
                  by_cases c31 : true = true
                  · clear c31
                    have H1 : (if ((decide (t148 < 0)) == (decide ((wrap64 ((wrap64 (a0)) * 10000)) < 0))) = true then (some (decide ((wrap64 ((wrap64 ((wrap64 (a0)) * 10000)) - t148)) < (wrap64 ((wrap64 (a1)) * 10000))))) else (some false)) = some r := by rw [if_pos rfl] at H; exact H
                    clear H
                    have H := H1
                    clear H1
                    by_cases c32 : ((decide (t148 < 0)) == (decide ((wrap64 ((wrap64 (a0)) * 10000)) < 0))) = true
                    · rw [if_pos c32] at H
                      have c32b0 : ((decide (t148 < 0)) == (decide ((wrap64 ((wrap64 (a0)) * 10000)) < 0))) = true := c32
                      (try (have c32b1 : decide ((decide (t148 < 0)) = (decide ((wrap64 ((wrap64 (a0)) * 10000)) < 0))) = true := by simpa using c32))
                      (try (have c32b2 : ((decide (t148 < 0)) == (decide ((wrap64 ((wrap64 (a0)) * 10000)) < 0))) = true := by simpa using c32))
                      clear c32
                      obtain rfl := Option.some.inj H
                      go_wp2
                      go_ret
                      exact ⟨by first | rfl | (simp [errW_none, errW_some] <;> rfl) | (simp [*, errW_none, errW_some] <;> rfl) | (simp [*, errW_none, errW_some] <;> (generalize ByteArray.toList _ = l_; cases l_ <;> rfl)), by repeat (first | (with_reducible first | exact HB.out | apply below_alloc | apply pw_below_drewN | apply below_drew1) | exact HB.out)⟩
                    · rw [if_neg c32] at H
                      have c32b0 : ((decide (t148 < 0)) == (decide ((wrap64 ((wrap64 (a0)) * 10000)) < 0))) = false := by simpa using c32
                      (try (have c32b1 : decide ((decide (t148 < 0)) = (decide ((wrap64 ((wrap64 (a0)) * 10000)) < 0))) = false := by simpa using c32))
                      (try (have c32b2 : ((decide (t148 < 0)) == (decide ((wrap64 ((wrap64 (a0)) * 10000)) < 0))) = false := by simpa using c32))
                      (try (have c32b3 : ¬ ((decide (t148 < 0)) = (decide ((wrap64 ((wrap64 (a0)) * 10000)) < 0))) := by simpa using c32))
                      clear c32
                      obtain rfl := Option.some.inj H
                      go_wp2
                      go_ret
                      exact ⟨by first | rfl | (simp [errW_none, errW_some] <;> rfl) | (simp [*, errW_none, errW_some] <;> rfl) | (simp [*, errW_none, errW_some] <;> (generalize ByteArray.toList _ = l_; cases l_ <;> rfl)), by repeat (first | (with_reducible first | exact HB.out | apply below_alloc | apply pw_below_drewN | apply below_drew1) | exact HB.out)⟩
                  · exact absurd rfl c31
  · replace c4 := Bool.eq_false_iff.mpr c4
    subst c4
    have H1 : (some false) = some r := by rw [if_neg (show ¬ (false = true) by decide)] at H; exact H
    clear H
    have H := H1
    clear H1
    obtain rfl := Option.some.inj H
    go_enter Tryd.func4, Tryd.ntmps4
    go_wp2_with (first | ((with_reducible refine gate_callee (f := 9) rfl ?_); refine goesL_ (some 17) rfl rfl Tryd.func9 (by kernel_rfl) rfl #[] rfl (by (try simp only [List.map_toArray, List.map_cons, List.map_nil]); first | done | rfl | (simp only [List.length_drop, List.length_take]; rfl)) ?_; (with_reducible refine (counterpanelaw1_begun.calls (hL := ⟨by first | exact hL.out | (refine hL.out.drawn ?_; (repeat (first | exact Drawn0.refl _ | apply Drawn0.step)); done) | (refine hL.out.below ?_; (repeat (first | (with_reducible first | exact HB.out | apply below_alloc | apply pw_below_drewN | apply below_drew1) | exact HB.out)); done)⟩) k  false _ A3.out).mono ?_); rintro e w33 ⟨rfl, hb⟩; refine ⟨_, rfl, ?_⟩; have n0_ := Aside0.mk (below_step (by repeat (first | (with_reducible first | exact HB.out | apply below_alloc | apply pw_below_drewN | apply below_drew1) | exact HB.out)) hb); clear HB; have HB := n0_; clear n0_; (try clear hb); (try clear hb2); (try clear hk); (try clear hi)))
    go_ret
    exact ⟨by first | rfl | (simp [errW_none, errW_some] <;> rfl) | (simp [*, errW_none, errW_some] <;> rfl) | (simp [*, errW_none, errW_some] <;> (generalize ByteArray.toList _ = l_; cases l_ <;> rfl)), by repeat (first | (with_reducible first | exact HB.out | apply below_alloc | apply pw_below_drewN | apply below_drew1) | exact HB.out)⟩

/-- THE ONE PURE STATEMENT of counterpanelaw1_FixCut: yours. -/
def counterpanelaw1_FixCut.Pure : Prop := ∀ (a0 : Int) (a1 : Int), (Lit.int .i32 a0).wf = true → (Lit.int .i16 a1).wf = true → ∃ k, counterpanelaw1_FixCut.f k a0 a1 = some true
theorem counterpanelaw1_FixCut.walk (P : counterpanelaw1_FixCut.Pure) (a0 : Int) (a1 : Int) (w : World) (hL : Aside0 (Lq w)) (w0 : (Lit.int .i32 a0).wf = true) (w1 : (Lit.int .i16 a1).wf = true) :
    Calls Tryd.prog 4 #[.int .i32 a0, .int .i16 a1] w fun e w' => e = .returned (.bool true) ∧ Below w.heap.size w w' := by
  obtain ⟨k, h⟩ := P a0 a1 w0 w1
  refine (counterpanelaw1_FixCut.calls (hL := ⟨by first | exact hL.out | (refine hL.out.drawn ?_; (repeat (first | exact Drawn0.refl _ | apply Drawn0.step)); done) | (refine hL.out.below ?_; (repeat (first | (with_reducible first | exact HB.out | apply below_alloc | apply pw_below_drewN | apply below_drew1) | exact HB.out)); done)⟩) k a0 a1 true w h).mono ?_
  rintro e w' ⟨rfl, hd⟩
  exact ⟨rfl, hd⟩

end Go.Proofs.YtkcncfikejepdaaDoor.EFix
