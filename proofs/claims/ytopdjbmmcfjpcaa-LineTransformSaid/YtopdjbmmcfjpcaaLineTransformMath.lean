/- The printed functions of the package axis, by their plain meaning. Conditions: enough rounds. -/
import Derived.Test.YtopdjbmmcfjpcaaPLineTransformx7
import Derived.Test.YtopdjbmmcfjpcaaLinePlain
namespace Go.Proofs.Ytopdjbmmcfjpcaa.PLineTransform
open Go.RowKit Go.Proofs.YtopdjbmmcfjpcaaW.PrintWords Go.Proofs.YtopdjbmmcfjpcaaW.PrintLast Go.Proofs.Ytopdjbmmcfjpcaa.LinePlain
theorem wr (x : Int) (h : -9223372036854775808 ≤ x) (h' : x ≤ 9223372036854775807) : wrap64 x = x := by unfold wrap64; omega
theorem beqd (a b : Int) : (a == b) = decide (a = b) := by by_cases h : a = b <;> simp [h]
theorem number_f (a : Int) : axis_number.f a = some (decide (0 ≤ a ∧ a < 2199023255552)) := by
  unfold axis_number.f
  by_cases h : a ≥ 0
  · rw [if_pos h]; congr 1; exact decide_eq_decide.2 (by omega)
  · rw [if_neg h]; congr 1; exact (decide_eq_false (by omega)).symm
theorem asked_f (a : Int) : axis_asked.f a = some (decide (0 ≤ a ∧ a ≤ 1152921504606846976)) := by
  unfold axis_asked.f
  by_cases h : a ≥ 0
  · rw [if_pos h]; congr 1; exact decide_eq_decide.2 (by omega)
  · rw [if_neg h]; congr 1; exact (decide_eq_false (by omega)).symm
theorem less_f (n a : Int) (h : -9223372036854775808 ≤ a) (h' : n ≤ 9223372036854775807) : axis_less.f n a = some (less n a) := by
  unfold axis_less.f less
  by_cases c : n > a
  · rw [if_pos c, if_pos c, wr _ (by omega) (by omega)]
  · rw [if_neg c, if_neg c]
theorem may_f (k : Nat) (kd a t : Int) : axis_May.f (k + 1) kd a t = some (decide (MayP kd a t)) := by
  unfold axis_May.f
  have e : ∀ c : Bool, (c = true ↔ (kd = 1 ∨ kd = 2)) → axis_May.j0 (k + 1) kd c kd a t = some (decide (MayP kd a t)) := by
    intro c hc
    simp only [axis_May.j0, number_f, Option.bind_some]
    by_cases h1 : c = true
    · rw [if_pos h1]
      by_cases h2 : 0 ≤ a ∧ a < 2199023255552
      · rw [if_pos (decide_eq_true h2), beqd]
        congr 1; refine decide_eq_decide.2 ?_
        have := hc.1 h1; unfold MayP; omega
      · rw [if_neg (by simpa using h2)]
        congr 1; refine (decide_eq_false ?_).symm
        unfold MayP; omega
    · rw [if_neg h1]
      have hn : ¬ (kd = 1 ∨ kd = 2) := fun h => h1 (hc.2 h)
      by_cases h3 : kd = 3
      · rw [if_pos h3]
        by_cases h2 : 0 ≤ a ∧ a < 2199023255552
        · rw [if_pos (decide_eq_true h2)]
          by_cases h4 : 0 ≤ t ∧ t < 2199023255552
          · rw [if_pos (decide_eq_true h4)]
            by_cases h5 : t = a
            · rw [if_pos h5]; congr 1; refine (decide_eq_false ?_).symm; unfold MayP; omega
            · rw [if_neg h5, wr _ (by omega) (by omega), bne, beqd, ← decide_not]
              congr 1; refine decide_eq_decide.2 ?_; unfold MayP; omega
          · rw [if_neg (by simpa using h4)]; congr 1; refine (decide_eq_false ?_).symm; unfold MayP; omega
        · rw [if_neg (by simpa using h2)]; congr 1; refine (decide_eq_false ?_).symm; unfold MayP; omega
      · rw [if_neg h3]; congr 1; refine (decide_eq_false ?_).symm; unfold MayP; omega
  by_cases h : kd = 1
  · rw [if_pos h]; exact e _ (by simp [h])
  · rw [if_neg h]; exact e _ (by simp [h])
theorem index_f (k : Nat) (kd a t i : Int) : axis_Index.f (k + 1) kd a t i = some (ix kd a t i) := by
  unfold axis_Index.f
  rw [asked_f, Option.bind_some]
  unfold ix
  by_cases h : 0 ≤ i ∧ i ≤ 1152921504606846976
  · rw [if_pos (decide_eq_true h), may_f, Option.bind_some]
    rw [axis_Index.j0]
    by_cases hm : MayP kd a t
    · have hc : 0 ≤ i ∧ i ≤ 1152921504606846976 ∧ MayP kd a t := ⟨h.1, h.2, hm⟩
      have hn : ¬ ((!decide (MayP kd a t)) = true) := by simp [hm]
      rw [if_neg hn, if_pos hc]
      have a0 : 0 ≤ a ∧ a < 2199023255552 ∧ 0 ≤ t ∧ t < 2199023255552 := by unfold MayP at hm; omega
      have hk : kd = 1 ∨ kd = 2 ∨ kd = 3 := by unfold MayP at hm; omega
      unfold ixv
      rcases hk with rfl | rfl | rfl
      · simp only [if_true, ins]
        by_cases c : i ≥ a
        · rw [if_pos c, if_pos c, wr _ (by omega) (by omega)]
        · rw [if_neg c, if_neg c]
      · simp only [Int.reduceEq, if_false, if_true, less_f i a (by omega) (by omega), Option.bind_some]
        by_cases c : i = a
        · rw [if_pos c, if_pos c]
        · rw [if_neg c, if_neg c]
      · simp only [Int.reduceEq, if_false, less_f i a (by omega) (by omega), less_f t a (by omega) (by omega), Option.bind_some, mv]
        have r : less i a ≤ i ∧ 0 ≤ less i a := by unfold less; omega
        by_cases c : i = a
        · rw [if_pos c, if_pos c]
        · rw [if_neg c, if_neg c]
          unfold ins
          by_cases d : less i a ≥ less t a
          · rw [if_pos d, if_pos d, wr _ (by omega) (by omega)]
          · rw [if_neg d, if_neg d]
    · have hc : ¬ (0 ≤ i ∧ i ≤ 1152921504606846976 ∧ MayP kd a t) := fun h => hm h.2.2
      have hn : (!decide (MayP kd a t)) = true := by simp [hm]
      rw [if_pos hn, if_neg hc]
  · rw [if_neg (by simpa using h), if_neg (by omega)]
    rw [axis_Index.j0, if_pos rfl]
theorem gap_f (k : Nat) (kd a t i : Int) (b : Bool) : axis_Gap.f (k + 1) kd a t i b = some (gp kd a t i b) := by
  unfold axis_Gap.f
  rw [asked_f, Option.bind_some]
  unfold gp
  by_cases h : 0 ≤ i ∧ i ≤ 1152921504606846976
  · rw [if_pos (decide_eq_true h), may_f, Option.bind_some]
    rw [axis_Gap.j0]
    by_cases hm : MayP kd a t
    · have hc : 0 ≤ i ∧ i ≤ 1152921504606846976 ∧ MayP kd a t := ⟨h.1, h.2, hm⟩
      have hn : ¬ ((!decide (MayP kd a t)) = true) := by simp [hm]
      rw [if_neg hn, if_pos hc]
      have a0 : 0 ≤ a ∧ a < 2199023255552 ∧ 0 ≤ t ∧ t < 2199023255552 := by unfold MayP at hm; omega
      have hk : kd = 1 ∨ kd = 2 ∨ kd = 3 := by unfold MayP at hm; omega
      unfold gpv
      have G : ∀ x y : Int, 0 ≤ x → x ≤ 1152921504606846976 → (if x > y then some (wrap64 (x + 1)) else if x = y then (if b = true then some (wrap64 (x + 1)) else some x) else some x) = some (insb x y b) := by
        intro x y hx hx'
        rw [wr _ (by omega) (by omega)]
        unfold insb
        by_cases c : x > y
        · rw [if_pos c, if_pos (.inl c)]
        · rw [if_neg c]
          by_cases d : x = y
          · rw [if_pos d]
            by_cases e : b = true
            · rw [if_pos e, if_pos (.inr ⟨d, e⟩)]
            · rw [if_neg e, if_neg (by intro h; exact h.elim c (fun h => e h.2))]
          · rw [if_neg d, if_neg (by intro h; exact h.elim c (fun h => d h.1))]
      rcases hk with rfl | rfl | rfl
      · simp only [Int.reduceEq, if_true, if_false]
        exact G i a (by omega) (by omega)
      · simp only [Int.reduceEq, if_false, if_true, less_f i a (by omega) (by omega), Option.bind_some]
      · simp only [Int.reduceEq, if_false, if_true, less_f i a (by omega) (by omega), less_f t a (by omega) (by omega), Option.bind_some, mg]
        have r : less i a ≤ i ∧ 0 ≤ less i a := by unfold less; omega
        exact G (less i a) (less t a) (by omega) (by omega)
    · have hc : ¬ (0 ≤ i ∧ i ≤ 1152921504606846976 ∧ MayP kd a t) := fun h => hm h.2.2
      have hn : (!decide (MayP kd a t)) = true := by simp [hm]
      rw [if_pos hn, if_neg hc]
  · rw [if_neg (by simpa using h), if_neg (by omega)]
    rw [axis_Gap.j0, if_pos rfl]
theorem back_f (k : Nat) (kd a t i : Int) : axis_Back.f (k + 2) kd a t i = some (bk kd a t i) := by
  unfold axis_Back.f
  rw [asked_f, Option.bind_some]
  unfold bk
  by_cases h : 0 ≤ i ∧ i ≤ 1152921504606846976
  · rw [if_pos (decide_eq_true h), may_f, Option.bind_some]
    rw [axis_Back.j0]
    by_cases hm : MayP kd a t
    · have hc : 0 ≤ i ∧ i ≤ 1152921504606846976 ∧ MayP kd a t := ⟨h.1, h.2, hm⟩
      have hn : ¬ ((!decide (MayP kd a t)) = true) := by simp [hm]
      rw [if_neg hn, if_pos hc]
      have a0 : 0 ≤ a ∧ a < 2199023255552 ∧ 0 ≤ t ∧ t < 2199023255552 := by unfold MayP at hm; omega
      have hk : kd = 1 ∨ kd = 2 ∨ kd = 3 := by unfold MayP at hm; omega
      unfold bkv
      rcases hk with rfl | rfl | rfl
      · simp only [if_true, less_f i a (by omega) (by omega), Option.bind_some]
        by_cases c : i = a
        · rw [if_pos c, if_pos c]
        · rw [if_neg c, if_neg c]
      · simp only [Int.reduceEq, if_false, if_true, axis_Back.j1, wr (i + 1) (by omega) (by omega)]
        unfold ins
        by_cases c : i = 1152921504606846976 ∧ i ≥ a
        · rw [if_pos c, if_pos c.1, if_pos (decide_eq_true c.2)]
        · rw [if_neg c]
          by_cases d : i = 1152921504606846976
          · rw [if_pos d, if_neg (by simp; omega), if_neg (by omega), if_neg (by omega)]
          · rw [if_neg d, if_neg (by simp)]
            by_cases e : i ≥ a
            · rw [if_pos e, if_pos e]
            · rw [if_neg e, if_neg e]
      · have r : 0 ≤ less t a ∧ less t a ≤ t := by
          unfold MayP at hm
          unfold less; omega
        simp only [Int.reduceEq, if_false, less_f t a (by omega) (by omega), less_f i (less t a) (by omega) (by omega), Option.bind_some]
        have r2 : less i (less t a) ≤ i ∧ 0 ≤ less i (less t a) := by unfold less at r ⊢; omega
        by_cases c : i = less t a
        · rw [if_pos c, if_pos c]
        · rw [if_neg c, if_neg c]
          unfold ins
          by_cases d : less i (less t a) ≥ a
          · rw [if_pos d, if_pos d, wr _ (by omega) (by omega)]
          · rw [if_neg d, if_neg d]
    · have hc : ¬ (0 ≤ i ∧ i ≤ 1152921504606846976 ∧ MayP kd a t) := fun h => hm h.2.2
      have hn : (!decide (MayP kd a t)) = true := by simp [hm]
      rw [if_pos hn, if_neg hc]
  · rw [if_neg (by simpa using h), if_neg (by omega)]
    rw [axis_Back.j0, if_pos rfl]
theorem transform_f (k : Nat) (kd a t l b s : Int) (pr : Bool) : axis_Transform.f (k + 3) kd a t l b s pr = some (tr kd a t l b s pr) := by
  unfold axis_Transform.f
  have J0 : axis_Transform.j0 (k + 3) pr true kd a t l b s = some (0, 0, 0, false) := by rw [axis_Transform.j0, if_pos rfl]
  rw [may_f, Option.bind_some]
  unfold tr
  by_cases ha : MayP kd a t
  · rw [if_pos (decide_eq_true ha), may_f, Option.bind_some]
    by_cases hb : MayP l b s
    · rw [decide_eq_true hb, Bool.not_true]
      have J1 : ∀ x, axis_Transform.j1 (k + 2) pr kd x t l b s = some (if MayP kd x (if kd = 3 then gp l b s t (!pr) else t) then (kd, x, (if kd = 3 then gp l b s t (!pr) else t), true) else (0, 0, 0, false)) := by
        intro x
        simp only [axis_Transform.j1, gap_f, may_f, Option.bind_some]
        by_cases h3 : kd = 3
        · simp only [if_pos h3]
          by_cases y : MayP kd x (gp l b s t (!pr))
          · rw [if_pos (decide_eq_true y), if_pos y]
          · rw [if_neg (by simpa using y), if_neg y]
        · simp only [if_neg h3]
          by_cases y : MayP kd x t
          · rw [if_pos (decide_eq_true y), if_pos y]
          · rw [if_neg (by simpa using y), if_neg y]
      rw [axis_Transform.j0, if_neg (by simp)]
      simp only [gap_f, index_f, Option.bind_some, J1]
      by_cases c : kd = 3 ∧ l = 3 ∧ a = b ∧ pr = true
      · have hc : ¬ (MayP kd a t ∧ MayP l b s ∧ ¬ (kd = 3 ∧ l = 3 ∧ a = b ∧ pr = true)) := fun h => h.2.2 c
        rw [if_neg hc]
        obtain ⟨rfl, rfl, rfl, rfl⟩ := c
        simp only [Int.reduceEq, if_false, if_true]
      · have hc : MayP kd a t ∧ MayP l b s ∧ ¬ (kd = 3 ∧ l = 3 ∧ a = b ∧ pr = true) := ⟨ha, hb, c⟩
        rw [if_pos hc]
        by_cases h1 : kd = 1
        · simp only [if_pos h1]
        · simp only [if_neg h1]
          by_cases h3 : kd = 3
          · rw [if_pos h3]
            by_cases h4 : l = 3
            · rw [if_pos h4]
              by_cases h5 : a = b
              · rw [if_pos h5, if_neg (fun h => c ⟨h3, h4, h5, h⟩)]
              · rw [if_neg h5]
            · rw [if_neg h4]
          · rw [if_neg h3]
    · rw [decide_eq_false hb, Bool.not_false, J0, if_neg (show ¬ (MayP kd a t ∧ MayP l b s ∧ ¬ (kd = 3 ∧ l = 3 ∧ a = b ∧ pr = true)) from fun h => hb h.2.1)]
  · rw [if_neg (by simpa using ha), J0, if_neg (show ¬ (MayP kd a t ∧ MayP l b s ∧ ¬ (kd = 3 ∧ l = 3 ∧ a = b ∧ pr = true)) from fun h => ha h.1)]
theorem begun_f (k : Nat) : counterpanelaw3_begun.f (k + 3) = some true := by
  unfold counterpanelaw3_begun.f
  simp only [transform_f, may_f, index_f, back_f, gap_f, Option.bind_some]
  decide +kernel
theorem refmay_f (k : Nat) (kd a t : Int) : counterpaneref3_May.f (k + 2) kd a t = some (decide (MayP kd a t)) := by
  have J : ∀ c : Bool, (c = true ↔ ¬ (0 ≤ a ∧ a < 2199023255552 ∧ 0 ≤ t ∧ t < 2199023255552)) → counterpaneref3_May.j0 (k + 2) c kd a t = some (decide (MayP kd a t)) := by
    intro c hc
    rw [counterpaneref3_May.j0]
    by_cases h1 : c = true
    · rw [if_pos h1]; congr 1; refine (decide_eq_false ?_).symm; have := hc.1 h1; unfold MayP; omega
    · rw [if_neg h1]
      have hb : 0 ≤ a ∧ a < 2199023255552 ∧ 0 ≤ t ∧ t < 2199023255552 := Classical.byContradiction fun h => h1 (hc.2 h)
      have K : ∀ d : Bool, (d = true ↔ (kd = 1 ∨ kd = 2)) → counterpaneref3_May.j1 (k + 1) kd d kd a t = some (decide (MayP kd a t)) := by
        intro d hd
        rw [counterpaneref3_May.j1]
        by_cases h2 : d = true
        · rw [if_pos h2, beqd]; congr 1; refine decide_eq_decide.2 ?_; have := hd.1 h2; unfold MayP; omega
        · rw [if_neg h2]
          have hn : ¬ (kd = 1 ∨ kd = 2) := fun h => h2 (hd.2 h)
          by_cases h3 : kd = 3
          · rw [if_pos h3]
            by_cases h5 : t = a
            · rw [if_pos h5]; congr 1; refine (decide_eq_false ?_).symm; unfold MayP; omega
            · rw [if_neg h5, wr _ (by omega) (by omega), bne, beqd, ← decide_not]
              congr 1; refine decide_eq_decide.2 ?_; unfold MayP; omega
          · rw [if_neg h3]; congr 1; refine (decide_eq_false ?_).symm; unfold MayP; omega
      by_cases h : kd = 1
      · rw [if_pos h]; exact K _ (by simp [h])
      · rw [if_neg h]; exact K _ (by simp [h])
  unfold counterpaneref3_May.f
  by_cases h1 : a < 0
  · rw [if_pos h1]; exact J true (by simp; omega)
  · rw [if_neg h1]
    by_cases h2 : a ≥ 2199023255552
    · rw [if_pos h2]; exact J true (by simp; omega)
    · rw [if_neg h2]
      by_cases h3 : t < 0
      · rw [if_pos h3]; exact J true (by simp; omega)
      · rw [if_neg h3]; exact J _ (by simp; omega)
theorem out_f (a : Int) : counterpaneref3_out.f a = some (!decide (0 ≤ a ∧ a ≤ 1152921504606846976)) := by
  unfold counterpaneref3_out.f
  by_cases h : a < 0
  · rw [if_pos h, decide_eq_false (by omega)]; rfl
  · rw [if_neg h, ← decide_not]; congr 1; exact decide_eq_decide.2 (by omega)
theorem left_f (n a : Int) (h : -9223372036854775808 ≤ a) (h' : n ≤ 9223372036854775807) : counterpaneref3_left.f n a = some (less n a) := by
  unfold counterpaneref3_left.f less
  by_cases c : n > a
  · rw [if_pos c, if_pos c, wr _ (by omega) (by omega)]
  · rw [if_neg c, if_neg c]
theorem refindex_f (k : Nat) (kd a t i : Int) : counterpaneref3_Index.f (k + 2) kd a t i = some (ix kd a t i) := by
  unfold counterpaneref3_Index.f
  rw [refmay_f, Option.bind_some]
  unfold ix
  by_cases hm : MayP kd a t
  · rw [if_pos (decide_eq_true hm), out_f, Option.bind_some, counterpaneref3_Index.j0]
    by_cases h : 0 ≤ i ∧ i ≤ 1152921504606846976
    · have hc : 0 ≤ i ∧ i ≤ 1152921504606846976 ∧ MayP kd a t := ⟨h.1, h.2, hm⟩
      have hn : ¬ ((!decide (0 ≤ i ∧ i ≤ 1152921504606846976)) = true) := by rw [decide_eq_true h]; decide
      rw [if_neg hn, if_pos hc]
      have a0 : 0 ≤ a ∧ a < 2199023255552 ∧ 0 ≤ t ∧ t < 2199023255552 := by unfold MayP at hm; omega
      have hk : kd = 1 ∨ kd = 2 ∨ kd = 3 := by unfold MayP at hm; omega
      unfold ixv
      rcases hk with rfl | rfl | rfl
      · simp only [if_true, ins]
        by_cases c : i ≥ a
        · rw [if_pos c, if_pos c, wr _ (by omega) (by omega)]
        · rw [if_neg c, if_neg c]
      · simp only [Int.reduceEq, if_false, if_true, left_f i a (by omega) (by omega), Option.bind_some]
        by_cases c : i = a
        · rw [if_pos c, if_pos c]
        · rw [if_neg c, if_neg c]
      · simp only [Int.reduceEq, if_false, left_f i a (by omega) (by omega), left_f t a (by omega) (by omega), Option.bind_some, mv]
        have r : less i a ≤ i ∧ 0 ≤ less i a := by unfold less; omega
        by_cases c : i = a
        · rw [if_pos c, if_pos c]
        · rw [if_neg c, if_neg c]
          unfold ins
          by_cases d : less i a ≥ less t a
          · rw [if_pos d, if_pos d, wr _ (by omega) (by omega)]
          · rw [if_neg d, if_neg d]
    · have hc : ¬ (0 ≤ i ∧ i ≤ 1152921504606846976 ∧ MayP kd a t) := fun x => h ⟨x.1, x.2.1⟩
      have hn : (!decide (0 ≤ i ∧ i ≤ 1152921504606846976)) = true := by rw [decide_eq_false h]; rfl
      rw [if_pos hn, if_neg hc]
  · have hc : ¬ (0 ≤ i ∧ i ≤ 1152921504606846976 ∧ MayP kd a t) := fun x => hm x.2.2
    have hn : ¬ (decide (MayP kd a t) = true) := by rw [decide_eq_false hm]; decide
    rw [if_neg hn, if_neg hc, counterpaneref3_Index.j0, if_pos rfl]
theorem refgap_f (k : Nat) (kd a t i : Int) (b : Bool) : counterpaneref3_Gap.f (k + 2) kd a t i b = some (gp kd a t i b) := by
  unfold counterpaneref3_Gap.f
  rw [refmay_f, Option.bind_some]
  unfold gp
  by_cases hm : MayP kd a t
  · rw [if_pos (decide_eq_true hm), out_f, Option.bind_some, counterpaneref3_Gap.j0]
    by_cases h : 0 ≤ i ∧ i ≤ 1152921504606846976
    · have hc : 0 ≤ i ∧ i ≤ 1152921504606846976 ∧ MayP kd a t := ⟨h.1, h.2, hm⟩
      have hn : ¬ ((!decide (0 ≤ i ∧ i ≤ 1152921504606846976)) = true) := by rw [decide_eq_true h]; decide
      rw [if_neg hn, if_pos hc]
      have a0 : 0 ≤ a ∧ a < 2199023255552 ∧ 0 ≤ t ∧ t < 2199023255552 := by unfold MayP at hm; omega
      have hk : kd = 1 ∨ kd = 2 ∨ kd = 3 := by unfold MayP at hm; omega
      unfold gpv
      have G : ∀ x y : Int, 0 ≤ x → x ≤ 1152921504606846976 → (if x > y then some (wrap64 (x + 1)) else if x = y then (if b = true then some (wrap64 (x + 1)) else some x) else some x) = some (insb x y b) := by
        intro x y hx hx'
        rw [wr _ (by omega) (by omega)]
        unfold insb
        by_cases c : x > y
        · rw [if_pos c, if_pos (.inl c)]
        · rw [if_neg c]
          by_cases d : x = y
          · rw [if_pos d]
            by_cases e : b = true
            · rw [if_pos e, if_pos (.inr ⟨d, e⟩)]
            · rw [if_neg e, if_neg (by intro h; exact h.elim c (fun h => e h.2))]
          · rw [if_neg d, if_neg (by intro h; exact h.elim c (fun h => d h.1))]
      rcases hk with rfl | rfl | rfl
      · simp only [if_true]
        exact G i a (by omega) (by omega)
      · simp only [Int.reduceEq, if_false, if_true, left_f i a (by omega) (by omega), Option.bind_some]
      · simp only [Int.reduceEq, if_false, left_f i a (by omega) (by omega), left_f t a (by omega) (by omega), Option.bind_some, mg]
        have r : less i a ≤ i ∧ 0 ≤ less i a := by unfold less; omega
        exact G (less i a) (less t a) (by omega) (by omega)
    · have hc : ¬ (0 ≤ i ∧ i ≤ 1152921504606846976 ∧ MayP kd a t) := fun x => h ⟨x.1, x.2.1⟩
      have hn : (!decide (0 ≤ i ∧ i ≤ 1152921504606846976)) = true := by rw [decide_eq_false h]; rfl
      rw [if_pos hn, if_neg hc]
  · have hc : ¬ (0 ≤ i ∧ i ≤ 1152921504606846976 ∧ MayP kd a t) := fun x => hm x.2.2
    have hn : ¬ (decide (MayP kd a t) = true) := by rw [decide_eq_false hm]; decide
    rw [if_neg hn, if_neg hc, counterpaneref3_Gap.j0, if_pos rfl]
/-- a May fails at a number below 0 -/
theorem tail_f (k : Nat) (kd x y : Int) : (if x < 0 then some (0, 0, 0, false) else ((counterpaneref3_May.f (k + 2) kd x y).bind fun t => (if t = true then (some (kd, x, y, true)) else (some (0, 0, 0, false))))) = some (if MayP kd x y then (kd, x, y, true) else (0, 0, 0, false)) := by
  rw [refmay_f, Option.bind_some]
  by_cases h : x < 0
  · rw [if_pos h, if_neg (by unfold MayP; omega)]
  · rw [if_neg h]
    by_cases y : MayP kd x y
    · rw [if_pos (decide_eq_true y), if_pos y]
    · rw [if_neg (by rw [decide_eq_false y]; decide), if_neg y]
theorem reftransform_f (k : Nat) (kd a t l b s : Int) (pr : Bool) : counterpaneref3_Transform.f (k + 4) kd a t l b s pr = some (tr kd a t l b s pr) := by
  unfold counterpaneref3_Transform.f
  have J0 : counterpaneref3_Transform.j0 (k + 4) pr true kd a t l b s = some (0, 0, 0, false) := by rw [counterpaneref3_Transform.j0, if_pos rfl]
  rw [refmay_f, Option.bind_some]
  by_cases ha : MayP kd a t
  · rw [if_pos (decide_eq_true ha), refmay_f, Option.bind_some]
    by_cases hb : MayP l b s
    · rw [decide_eq_true hb, Bool.not_true, counterpaneref3_Transform.j0, if_neg (by simp)]
      have hk : kd = 1 ∨ kd = 2 ∨ kd = 3 := by unfold MayP at ha; omega
      simp only [refgap_f, refindex_f, Option.bind_some]
      rw [tail_f, tail_f]
      have J1 : ∀ c : Bool, counterpaneref3_Transform.j1 (k + 3) pr c kd a t l b s kd 0 0 = if c = true then some (0, 0, 0, false) else some (if MayP kd (ix l b s a) (gp l b s t (!pr)) then (kd, ix l b s a, gp l b s t (!pr), true) else (0, 0, 0, false)) := by
        intro c
        rw [counterpaneref3_Transform.j1, refindex_f, Option.bind_some, refgap_f, Option.bind_some, tail_f]
      simp only [J1]
      unfold tr
      by_cases c : kd = 3 ∧ l = 3 ∧ a = b ∧ pr = true
      · have hc : ¬ (MayP kd a t ∧ MayP l b s ∧ ¬ (kd = 3 ∧ l = 3 ∧ a = b ∧ pr = true)) := fun h => h.2.2 c
        rw [if_neg hc]
        obtain ⟨rfl, rfl, rfl, rfl⟩ := c
        simp only [Int.reduceEq, if_false, if_true]
      · have hc : MayP kd a t ∧ MayP l b s ∧ ¬ (kd = 3 ∧ l = 3 ∧ a = b ∧ pr = true) := ⟨ha, hb, c⟩
        rw [if_pos hc]
        rcases hk with rfl | rfl | rfl
        · obtain rfl : t = 0 := by unfold MayP at ha; omega
          simp only [Int.reduceEq, if_false, if_true]
        · obtain rfl : t = 0 := by unfold MayP at ha; omega
          simp only [Int.reduceEq, if_false, if_true]
        · simp only [Int.reduceEq, if_false, if_true, Bool.false_eq_true]
          by_cases h4 : l = 3
          · rw [if_pos h4]
            by_cases h5 : b = a
            · rw [if_pos h5, if_neg (fun h => c ⟨rfl, h4, h5.symm, h⟩)]
            · rw [if_neg h5]
          · rw [if_neg h4]
    · rw [decide_eq_false hb, Bool.not_false, J0]
      unfold tr
      rw [if_neg (fun h => hb h.2.1)]
  · rw [if_neg (by rw [decide_eq_false ha]; decide), J0]
    unfold tr
    rw [if_neg (fun h => ha h.1)]
theorem LineTransform_pure (kd a t l b s : Int) (pr : Bool) : ∃ k, counterpanelaw3_LineTransform.f k kd a t l b s pr = some true := by
  refine ⟨9, ?_⟩
  unfold counterpanelaw3_LineTransform.f
  rw [begun_f 6, Option.bind_some, if_pos rfl, transform_f 6, Option.bind_some, reftransform_f 5, Option.bind_some]
  generalize tr kd a t l b s pr = r
  rw [if_pos (beq_self_eq_true _), if_pos rfl, if_pos rfl, beq_self_eq_true]
theorem LineTransform_walk (kd a t l b s : Int) (pr : Bool) (w : World) (_ : (Lit.int .i64 kd).wf = true) (_ : (Lit.int .i64 a).wf = true) (_ : (Lit.int .i64 t).wf = true) (_ : (Lit.int .i64 l).wf = true) (_ : (Lit.int .i64 b).wf = true) (_ : (Lit.int .i64 s).wf = true) :
    Calls Try.prog 4 #[.agg #[.int .i64 kd, .int .i64 a, .int .i64 t], .agg #[.int .i64 l, .int .i64 b, .int .i64 s], .bool pr] w fun e w' => e = .returned (.bool true) ∧ Below w.heap.size w w' := by
  obtain ⟨k, h⟩ := LineTransform_pure kd a t l b s pr
  exact counterpanelaw3_LineTransform.calls k kd a t l b s pr true w h
end Go.Proofs.Ytopdjbmmcfjpcaa.PLineTransform
