/- The printed functions of the package axis, by their plain meaning. Conditions: enough rounds. -/
import Derived.Test.YtopdjbmmcfjpcaaOLineAll
import Derived.Test.YtopdjbmmcfjpcaaLinePlain
namespace Go.Proofs.Ytopdjbmmcfjpcaa.PLineAll
open Go.RowKit Go.Proofs.YtopdjbmmcfjpcaaW.PrintWords Go.Proofs.YtopdjbmmcfjpcaaW.PrintLast Go.Proofs.Ytopdjbmmcfjpcaa.LinePlain
theorem wr (x : Int) (h : -9223372036854775808 ≤ x) (h' : x ≤ 9223372036854775807) : wrap64 x = x := by unfold wrap64; omega
theorem beqd (a b : Int) : (a == b) = decide (a = b) := by by_cases h : a = b <;> simp [h]
theorem number_f (a : Int) : axis_number.f a = some (decide (0 ≤ a ∧ a < 2199023255552)) := by
  unfold axis_number.f
  by_cases h : a ≥ 0
  · rw [if_pos h]; congr 1; exact decide_eq_decide.2 (by omega)
  · rw [if_neg h]; congr 1; exact (decide_eq_false (by omega)).symm
theorem asked_f (a : Int) : axis_asked.f a = some (decide (0 ≤ a ∧ a ≤ 1152921504606846976)) := by
  unfold axis_asked.f
  by_cases h : a ≥ 0
  · rw [if_pos h]; congr 1; exact decide_eq_decide.2 (by omega)
  · rw [if_neg h]; congr 1; exact (decide_eq_false (by omega)).symm
theorem less_f (n a : Int) (h : -9223372036854775808 ≤ a) (h' : n ≤ 9223372036854775807) : axis_less.f n a = some (less n a) := by
  unfold axis_less.f less
  by_cases c : n > a
  · rw [if_pos c, if_pos c, wr _ (by omega) (by omega)]
  · rw [if_neg c, if_neg c]
theorem may_f (k : Nat) (kd a t : Int) : axis_May.f (k + 1) kd a t = some (decide (MayP kd a t)) := by
  unfold axis_May.f
  have e : ∀ c : Bool, (c = true ↔ (kd = 1 ∨ kd = 2)) → axis_May.j0 (k + 1) kd c kd a t = some (decide (MayP kd a t)) := by
    intro c hc
    simp only [axis_May.j0, number_f, Option.bind_some]
    by_cases h1 : c = true
    · rw [if_pos h1]
      by_cases h2 : 0 ≤ a ∧ a < 2199023255552
      · rw [if_pos (decide_eq_true h2), beqd]
        congr 1; refine decide_eq_decide.2 ?_
        have := hc.1 h1; unfold MayP; omega
      · rw [if_neg (by simpa using h2)]
        congr 1; refine (decide_eq_false ?_).symm
        unfold MayP; omega
    · rw [if_neg h1]
      have hn : ¬ (kd = 1 ∨ kd = 2) := fun h => h1 (hc.2 h)
      by_cases h3 : kd = 3
      · rw [if_pos h3]
        by_cases h2 : 0 ≤ a ∧ a < 2199023255552
        · rw [if_pos (decide_eq_true h2)]
          by_cases h4 : 0 ≤ t ∧ t < 2199023255552
          · rw [if_pos (decide_eq_true h4)]
            by_cases h5 : t = a
            · rw [if_pos h5]; congr 1; refine (decide_eq_false ?_).symm; unfold MayP; omega
            · rw [if_neg h5, wr _ (by omega) (by omega), bne, beqd, ← decide_not]
              congr 1; refine decide_eq_decide.2 ?_; unfold MayP; omega
          · rw [if_neg (by simpa using h4)]; congr 1; refine (decide_eq_false ?_).symm; unfold MayP; omega
        · rw [if_neg (by simpa using h2)]; congr 1; refine (decide_eq_false ?_).symm; unfold MayP; omega
      · rw [if_neg h3]; congr 1; refine (decide_eq_false ?_).symm; unfold MayP; omega
  by_cases h : kd = 1
  · rw [if_pos h]; exact e _ (by simp [h])
  · rw [if_neg h]; exact e _ (by simp [h])
theorem index_f (k : Nat) (kd a t i : Int) : axis_Index.f (k + 1) kd a t i = some (ix kd a t i) := by
  unfold axis_Index.f
  rw [asked_f, Option.bind_some]
  unfold ix
  by_cases h : 0 ≤ i ∧ i ≤ 1152921504606846976
  · rw [if_pos (decide_eq_true h), may_f, Option.bind_some]
    rw [axis_Index.j0]
    by_cases hm : MayP kd a t
    · have hc : 0 ≤ i ∧ i ≤ 1152921504606846976 ∧ MayP kd a t := ⟨h.1, h.2, hm⟩
      have hn : ¬ ((!decide (MayP kd a t)) = true) := by simp [hm]
      rw [if_neg hn, if_pos hc]
      have a0 : 0 ≤ a ∧ a < 2199023255552 ∧ 0 ≤ t ∧ t < 2199023255552 := by unfold MayP at hm; omega
      have hk : kd = 1 ∨ kd = 2 ∨ kd = 3 := by unfold MayP at hm; omega
      unfold ixv
      rcases hk with rfl | rfl | rfl
      · simp only [if_true, ins]
        by_cases c : i ≥ a
        · rw [if_pos c, if_pos c, wr _ (by omega) (by omega)]
        · rw [if_neg c, if_neg c]
      · simp only [Int.reduceEq, if_false, if_true, less_f i a (by omega) (by omega), Option.bind_some]
        by_cases c : i = a
        · rw [if_pos c, if_pos c]
        · rw [if_neg c, if_neg c]
      · simp only [Int.reduceEq, if_false, less_f i a (by omega) (by omega), less_f t a (by omega) (by omega), Option.bind_some, mv]
        have r : less i a ≤ i ∧ 0 ≤ less i a := by unfold less; omega
        by_cases c : i = a
        · rw [if_pos c, if_pos c]
        · rw [if_neg c, if_neg c]
          unfold ins
          by_cases d : less i a ≥ less t a
          · rw [if_pos d, if_pos d, wr _ (by omega) (by omega)]
          · rw [if_neg d, if_neg d]
    · have hc : ¬ (0 ≤ i ∧ i ≤ 1152921504606846976 ∧ MayP kd a t) := fun h => hm h.2.2
      have hn : (!decide (MayP kd a t)) = true := by simp [hm]
      rw [if_pos hn, if_neg hc]
  · rw [if_neg (by simpa using h), if_neg (by omega)]
    rw [axis_Index.j0, if_pos rfl]
theorem gap_f (k : Nat) (kd a t i : Int) (b : Bool) : axis_Gap.f (k + 1) kd a t i b = some (gp kd a t i b) := by
  unfold axis_Gap.f
  rw [asked_f, Option.bind_some]
  unfold gp
  by_cases h : 0 ≤ i ∧ i ≤ 1152921504606846976
  · rw [if_pos (decide_eq_true h), may_f, Option.bind_some]
    rw [axis_Gap.j0]
    by_cases hm : MayP kd a t
    · have hc : 0 ≤ i ∧ i ≤ 1152921504606846976 ∧ MayP kd a t := ⟨h.1, h.2, hm⟩
      have hn : ¬ ((!decide (MayP kd a t)) = true) := by simp [hm]
      rw [if_neg hn, if_pos hc]
      have a0 : 0 ≤ a ∧ a < 2199023255552 ∧ 0 ≤ t ∧ t < 2199023255552 := by unfold MayP at hm; omega
      have hk : kd = 1 ∨ kd = 2 ∨ kd = 3 := by unfold MayP at hm; omega
      unfold gpv
      have G : ∀ x y : Int, 0 ≤ x → x ≤ 1152921504606846976 → (if x > y then some (wrap64 (x + 1)) else if x = y then (if b = true then some (wrap64 (x + 1)) else some x) else some x) = some (insb x y b) := by
        intro x y hx hx'
        rw [wr _ (by omega) (by omega)]
        unfold insb
        by_cases c : x > y
        · rw [if_pos c, if_pos (.inl c)]
        · rw [if_neg c]
          by_cases d : x = y
          · rw [if_pos d]
            by_cases e : b = true
            · rw [if_pos e, if_pos (.inr ⟨d, e⟩)]
            · rw [if_neg e, if_neg (by intro h; exact h.elim c (fun h => e h.2))]
          · rw [if_neg d, if_neg (by intro h; exact h.elim c (fun h => d h.1))]
      rcases hk with rfl | rfl | rfl
      · simp only [Int.reduceEq, if_true, if_false]
        exact G i a (by omega) (by omega)
      · simp only [Int.reduceEq, if_false, if_true, less_f i a (by omega) (by omega), Option.bind_some]
      · simp only [Int.reduceEq, if_false, if_true, less_f i a (by omega) (by omega), less_f t a (by omega) (by omega), Option.bind_some, mg]
        have r : less i a ≤ i ∧ 0 ≤ less i a := by unfold less; omega
        exact G (less i a) (less t a) (by omega) (by omega)
    · have hc : ¬ (0 ≤ i ∧ i ≤ 1152921504606846976 ∧ MayP kd a t) := fun h => hm h.2.2
      have hn : (!decide (MayP kd a t)) = true := by simp [hm]
      rw [if_pos hn, if_neg hc]
  · rw [if_neg (by simpa using h), if_neg (by omega)]
    rw [axis_Gap.j0, if_pos rfl]
theorem back_f (k : Nat) (kd a t i : Int) : axis_Back.f (k + 2) kd a t i = some (bk kd a t i) := by
  unfold axis_Back.f
  rw [asked_f, Option.bind_some]
  unfold bk
  by_cases h : 0 ≤ i ∧ i ≤ 1152921504606846976
  · rw [if_pos (decide_eq_true h), may_f, Option.bind_some]
    rw [axis_Back.j0]
    by_cases hm : MayP kd a t
    · have hc : 0 ≤ i ∧ i ≤ 1152921504606846976 ∧ MayP kd a t := ⟨h.1, h.2, hm⟩
      have hn : ¬ ((!decide (MayP kd a t)) = true) := by simp [hm]
      rw [if_neg hn, if_pos hc]
      have a0 : 0 ≤ a ∧ a < 2199023255552 ∧ 0 ≤ t ∧ t < 2199023255552 := by unfold MayP at hm; omega
      have hk : kd = 1 ∨ kd = 2 ∨ kd = 3 := by unfold MayP at hm; omega
      unfold bkv
      rcases hk with rfl | rfl | rfl
      · simp only [if_true, less_f i a (by omega) (by omega), Option.bind_some]
        by_cases c : i = a
        · rw [if_pos c, if_pos c]
        · rw [if_neg c, if_neg c]
      · simp only [Int.reduceEq, if_false, if_true, axis_Back.j1, wr (i + 1) (by omega) (by omega)]
        unfold ins
        by_cases c : i = 1152921504606846976 ∧ i ≥ a
        · rw [if_pos c, if_pos c.1, if_pos (decide_eq_true c.2)]
        · rw [if_neg c]
          by_cases d : i = 1152921504606846976
          · rw [if_pos d, if_neg (by simp; omega), if_neg (by omega), if_neg (by omega)]
          · rw [if_neg d, if_neg (by simp)]
            by_cases e : i ≥ a
            · rw [if_pos e, if_pos e]
            · rw [if_neg e, if_neg e]
      · have r : 0 ≤ less t a ∧ less t a ≤ t := by
          unfold MayP at hm
          unfold less; omega
        simp only [Int.reduceEq, if_false, less_f t a (by omega) (by omega), less_f i (less t a) (by omega) (by omega), Option.bind_some]
        have r2 : less i (less t a) ≤ i ∧ 0 ≤ less i (less t a) := by unfold less at r ⊢; omega
        by_cases c : i = less t a
        · rw [if_pos c, if_pos c]
        · rw [if_neg c, if_neg c]
          unfold ins
          by_cases d : less i (less t a) ≥ a
          · rw [if_pos d, if_pos d, wr _ (by omega) (by omega)]
          · rw [if_neg d, if_neg d]
    · have hc : ¬ (0 ≤ i ∧ i ≤ 1152921504606846976 ∧ MayP kd a t) := fun h => hm h.2.2
      have hn : (!decide (MayP kd a t)) = true := by simp [hm]
      rw [if_pos hn, if_neg hc]
  · rw [if_neg (by simpa using h), if_neg (by omega)]
    rw [axis_Back.j0, if_pos rfl]
theorem transform_f (k : Nat) (kd a t l b s : Int) (pr : Bool) : axis_Transform.f (k + 3) kd a t l b s pr = some (tr kd a t l b s pr) := by
  unfold axis_Transform.f
  have J0 : axis_Transform.j0 (k + 3) pr true kd a t l b s = some (0, 0, 0, false) := by rw [axis_Transform.j0, if_pos rfl]
  rw [may_f, Option.bind_some]
  unfold tr
  by_cases ha : MayP kd a t
  · rw [if_pos (decide_eq_true ha), may_f, Option.bind_some]
    by_cases hb : MayP l b s
    · rw [decide_eq_true hb, Bool.not_true]
      have J1 : ∀ x, axis_Transform.j1 (k + 2) pr kd x t l b s = some (if MayP kd x (if kd = 3 then gp l b s t (!pr) else t) then (kd, x, (if kd = 3 then gp l b s t (!pr) else t), true) else (0, 0, 0, false)) := by
        intro x
        simp only [axis_Transform.j1, gap_f, may_f, Option.bind_some]
        by_cases h3 : kd = 3
        · simp only [if_pos h3]
          by_cases y : MayP kd x (gp l b s t (!pr))
          · rw [if_pos (decide_eq_true y), if_pos y]
          · rw [if_neg (by simpa using y), if_neg y]
        · simp only [if_neg h3]
          by_cases y : MayP kd x t
          · rw [if_pos (decide_eq_true y), if_pos y]
          · rw [if_neg (by simpa using y), if_neg y]
      rw [axis_Transform.j0, if_neg (by simp)]
      simp only [gap_f, index_f, Option.bind_some, J1]
      by_cases c : kd = 3 ∧ l = 3 ∧ a = b ∧ pr = true
      · have hc : ¬ (MayP kd a t ∧ MayP l b s ∧ ¬ (kd = 3 ∧ l = 3 ∧ a = b ∧ pr = true)) := fun h => h.2.2 c
        rw [if_neg hc]
        obtain ⟨rfl, rfl, rfl, rfl⟩ := c
        simp only [Int.reduceEq, if_false, if_true]
      · have hc : MayP kd a t ∧ MayP l b s ∧ ¬ (kd = 3 ∧ l = 3 ∧ a = b ∧ pr = true) := ⟨ha, hb, c⟩
        rw [if_pos hc]
        by_cases h1 : kd = 1
        · simp only [if_pos h1]
        · simp only [if_neg h1]
          by_cases h3 : kd = 3
          · rw [if_pos h3]
            by_cases h4 : l = 3
            · rw [if_pos h4]
              by_cases h5 : a = b
              · rw [if_pos h5, if_neg (fun h => c ⟨h3, h4, h5, h⟩)]
              · rw [if_neg h5]
            · rw [if_neg h4]
          · rw [if_neg h3]
    · rw [decide_eq_false hb, Bool.not_false, J0, if_neg (show ¬ (MayP kd a t ∧ MayP l b s ∧ ¬ (kd = 3 ∧ l = 3 ∧ a = b ∧ pr = true)) from fun h => hb h.2.1)]
  · rw [if_neg (by simpa using ha), J0, if_neg (show ¬ (MayP kd a t ∧ MayP l b s ∧ ¬ (kd = 3 ∧ l = 3 ∧ a = b ∧ pr = true)) from fun h => ha h.1)]
theorem begun_f (k : Nat) : counterpanelaw3_begun.f (k + 3) = some true := by
  unfold counterpanelaw3_begun.f
  simp only [transform_f, may_f, index_f, back_f, gap_f, Option.bind_some]
  decide +kernel
theorem refmay_f (k : Nat) (kd a t : Int) : counterpaneref3_May.f (k + 2) kd a t = some (decide (MayP kd a t)) := by
  have J : ∀ c : Bool, (c = true ↔ ¬ (0 ≤ a ∧ a < 2199023255552 ∧ 0 ≤ t ∧ t < 2199023255552)) → counterpaneref3_May.j0 (k + 2) c kd a t = some (decide (MayP kd a t)) := by
    intro c hc
    rw [counterpaneref3_May.j0]
    by_cases h1 : c = true
    · rw [if_pos h1]; congr 1; refine (decide_eq_false ?_).symm; have := hc.1 h1; unfold MayP; omega
    · rw [if_neg h1]
      have hb : 0 ≤ a ∧ a < 2199023255552 ∧ 0 ≤ t ∧ t < 2199023255552 := Classical.byContradiction fun h => h1 (hc.2 h)
      have K : ∀ d : Bool, (d = true ↔ (kd = 1 ∨ kd = 2)) → counterpaneref3_May.j1 (k + 1) kd d kd a t = some (decide (MayP kd a t)) := by
        intro d hd
        rw [counterpaneref3_May.j1]
        by_cases h2 : d = true
        · rw [if_pos h2, beqd]; congr 1; refine decide_eq_decide.2 ?_; have := hd.1 h2; unfold MayP; omega
        · rw [if_neg h2]
          have hn : ¬ (kd = 1 ∨ kd = 2) := fun h => h2 (hd.2 h)
          by_cases h3 : kd = 3
          · rw [if_pos h3]
            by_cases h5 : t = a
            · rw [if_pos h5]; congr 1; refine (decide_eq_false ?_).symm; unfold MayP; omega
            · rw [if_neg h5, wr _ (by omega) (by omega), bne, beqd, ← decide_not]
              congr 1; refine decide_eq_decide.2 ?_; unfold MayP; omega
          · rw [if_neg h3]; congr 1; refine (decide_eq_false ?_).symm; unfold MayP; omega
      by_cases h : kd = 1
      · rw [if_pos h]; exact K _ (by simp [h])
      · rw [if_neg h]; exact K _ (by simp [h])
  unfold counterpaneref3_May.f
  by_cases h1 : a < 0
  · rw [if_pos h1]; exact J true (by simp; omega)
  · rw [if_neg h1]
    by_cases h2 : a ≥ 2199023255552
    · rw [if_pos h2]; exact J true (by simp; omega)
    · rw [if_neg h2]
      by_cases h3 : t < 0
      · rw [if_pos h3]; exact J true (by simp; omega)
      · rw [if_neg h3]; exact J _ (by simp; omega)
theorem end_f (q : Nat) (k a t : Int) (r : Int × Int × Int × Bool) (v : Int) (_hv : 0 ≤ v) : counterpanelaw3_end.f (q + 1) k a t r.1 r.2.1 r.2.2.1 r.2.2.2 v = some (go r (ix k a t v)) := by
  unfold counterpanelaw3_end.f
  rw [index_f, Option.bind_some]
  unfold go
  by_cases h : ix k a t v < 0
  · rw [if_pos h, if_pos (.inl h)]
  · rw [if_neg h]
    by_cases c : r.2.2.2 = true
    · rw [if_pos c, index_f, Option.bind_some, if_neg (by rw [c]; simp; omega)]
    · rw [if_neg c, if_pos (.inr (by simpa using c))]
theorem made_f (q : Nat) (a t : Int) (r : Int × Int × Int × Bool) (ha : 0 ≤ a) : counterpanelaw3_made.f (q + 1) 1 a t r.1 r.2.1 r.2.2.1 r.2.2.2 = some (go r a) := by
  unfold counterpanelaw3_made.f
  rw [if_pos rfl]
  unfold go
  by_cases c : r.2.2.2 = true
  · rw [if_pos c, index_f, Option.bind_some, if_neg (by rw [c]; simp; omega)]
  · rw [if_neg c, if_pos (.inr (by simpa using c))]
theorem rdi_at (xs : List Int) (i : Nat) (h : i < xs.length) : rd xs (i : Int) = xs[i] := by
  unfold rd
  rw [Int.toNat_natCast, List.getD_eq_getElem?_getD, List.getElem?_eq_getElem h]; rfl
theorem last_f (q : Nat) (k a t l b s : Int) (ha : MayP k a t) (hb : MayP l b s) (h1 : a ≤ 1099511627776) (h2 : t ≤ 1099511627776) (h3 : b ≤ 1099511627776) (h4 : s ≤ 1099511627776) (L : List Int) (j : Nat) (hj : j = L.length) :
    counterpanelaw3_LineSides.l0 (q + 2) true (tr k a t l b s true).2.2.2 (tr l b s k a t false).2.2.2 L j k a t l b s (tr k a t l b s true).1 (tr k a t l b s true).2.1 (tr k a t l b s true).2.2.1 (tr l b s k a t false).1 (tr l b s k a t false).2.1 (tr l b s k a t false).2.2.1 = some true := by
  have hN : N = 1099511628776 := rfl
  have a0 : 0 ≤ a := by unfold MayP at ha; omega
  have b0 : 0 ≤ b := by unfold MayP at hb; omega
  have P2 : (if true = true then (if l = 1 then (if (tr l b s k a t false).2.2.2 = true then ((counterpanelaw3_made.f (q + 1) l b s (tr k a t l b s true).1 (tr k a t l b s true).2.1 (tr k a t l b s true).2.2.1 (tr k a t l b s true).2.2.2).bind fun t179 => (some (t179 == (tr l b s k a t false).2.1))) else (some false)) else (some true)) else (some false)) = some true := by
    rw [if_pos rfl]
    by_cases c : l = 1
    · subst c
      obtain rfl : s = 0 := by unfold MayP at hb; omega
      have e := tr_one b k a t false hb ha (by omega)
      have m := madeB k a t b ha hb (by omega) (by omega) (by omega)
      rw [if_pos rfl, made_f q b 0 _ b0, Option.bind_some, m, e, if_pos rfl, beqd]
      exact congrArg some (decide_eq_true rfl)
    · rw [if_neg c]
  rw [counterpanelaw3_LineSides.l0, if_neg (by omega)]
  by_cases c : k = 1
  · subst c
    obtain rfl : t = 0 := by unfold MayP at ha; omega
    have e := tr_one a l b s true ha hb (by omega)
    have m := madeA l b s a ha hb (by omega) (by omega) (by omega)
    have e1 : (tr 1 a 0 l b s true).2.2.2 = true := by rw [e]
    have e2 : (tr 1 a 0 l b s true).2.1 = gpv l b s a false := by rw [e]; rfl
    rw [if_pos rfl, if_pos e1, made_f q a 0 _ a0, Option.bind_some, m, if_pos e2.symm]
    exact P2
  · rw [if_neg c]; exact P2
theorem loop_f (k a t l b s : Int) (ha : MayP k a t) (hb : MayP l b s) (h1 : a ≤ 1099511627776) (h2 : t ≤ 1099511627776) (h3 : b ≤ 1099511627776) (h4 : s ≤ 1099511627776) (L : List Int) (hL : L.length ≤ 20) (hv : ∀ v, v ∈ L → v ≤ 576460752303423488) (d : Nat) :
    ∀ (q j : Nat), j + d = L.length → d + 2 ≤ q →
    counterpanelaw3_LineSides.l0 q true (tr k a t l b s true).2.2.2 (tr l b s k a t false).2.2.2 L j k a t l b s (tr k a t l b s true).1 (tr k a t l b s true).2.1 (tr k a t l b s true).2.2.1 (tr l b s k a t false).1 (tr l b s k a t false).2.1 (tr l b s k a t false).2.2.1 = some true := by
  have hN : N = 1099511628776 := rfl
  induction d with
  | zero =>
    intro q j hj hq
    obtain ⟨q, rfl⟩ : ∃ m, q = m + 2 := ⟨q - 2, by omega⟩
    exact last_f q k a t l b s ha hb h1 h2 h3 h4 L j (by omega)
  | succ d ih =>
    intro q j hj hq
    obtain ⟨q, rfl⟩ : ∃ m, q = m + 2 := ⟨q - 2, by omega⟩
    have hlt : j < L.length := by omega
    have hm := hv L[j] (List.getElem_mem hlt)
    rw [counterpanelaw3_LineSides.l0, if_pos (by omega), if_pos (by omega), rdi_at L j hlt, wr _ (by omega) (by omega)]
    have e := ih (q + 1) (j + 1) (by omega) (by omega)
    rw [show (((j + 1 : Nat)) : Int) = (j : Int) + 1 from by omega] at e
    by_cases c : L[j] ≥ 0
    · rw [if_pos c, end_f q k a t _ _ c, Option.bind_some, end_f q l b s _ _ c, Option.bind_some, if_pos (sides k a t l b s L[j] ha hb (by omega) (by omega) (by omega) (by omega) c hm)]
      exact e
    · rw [if_neg c]; exact e
theorem LineSides_all (q : Nat) (hq : 100 ≤ q) (k a t l b s i : Int) : counterpanelaw3_LineSides.f q k a t l b s i = some true := by
  obtain ⟨q, rfl⟩ : ∃ m, q = m + 100 := ⟨q - 100, by omega⟩
  have D : counterpanelaw3_LineSides.j0 (q + 100) i true true k a t l b s = some true := by rw [counterpanelaw3_LineSides.j0, if_pos rfl]
  unfold counterpanelaw3_LineSides.f
  rw [begun_f (q + 97), Option.bind_some, if_pos rfl, refmay_f (q + 98), Option.bind_some]
  by_cases ha : MayP k a t
  · rw [if_pos (decide_eq_true ha), refmay_f (q + 98), Option.bind_some]
    by_cases hb : MayP l b s
    · rw [if_pos (decide_eq_true hb)]
      by_cases h1 : a > 1099511627776
      · rw [if_pos h1, D]
      rw [if_neg h1]
      by_cases h2 : t > 1099511627776
      · rw [if_pos h2, D]
      rw [if_neg h2]
      by_cases h3 : b > 1099511627776
      · rw [if_pos h3, D]
      rw [if_neg h3]
      by_cases h4 : s > 1099511627776
      · rw [if_pos h4, D]
      rw [if_neg h4]
      by_cases h5 : i < 0
      · rw [if_pos h5, D]
      rw [if_neg h5]
      by_cases h6 : i > 1125899906842624
      · rw [decide_eq_true h6, D]
      have a0 : 0 ≤ a ∧ 0 ≤ t := by unfold MayP at ha; omega
      have b0 : 0 ≤ b ∧ 0 ≤ s := by unfold MayP at hb; omega
      have hm : Int.tmod i 8 = i % 8 := Int.tmod_eq_emod_of_nonneg (by omega)
      rw [decide_eq_false h6, counterpanelaw3_LineSides.j0, if_neg (by simp), transform_f (q + 96), Option.bind_some, transform_f (q + 96), Option.bind_some, wr (a + 1) (by omega) (by omega), wr (b + 1) (by omega) (by omega), wr (t - 1) (by omega) (by omega), wr (s - 1) (by omega) (by omega), hm]
      refine loop_f k a t l b s ha hb (by omega) (by omega) (by omega) (by omega) [i, a, b, t, s, a + 1, b + 1, t - 1, s - 1, i % 8, 0] (by simp) ?_ 11 (q + 99) 0 (by simp) (by omega)
      intro v hv
      simp only [List.mem_cons, List.not_mem_nil, or_false] at hv
      omega
    · rw [if_neg (by rw [decide_eq_false hb]; decide), D]
  · rw [if_neg (by rw [decide_eq_false ha]; decide), D]
theorem all_l4 (x : List S23) (hx : x.length ≤ 60) (i j : Nat) (hi : i < x.length) (hj : j < x.length) (K0 : Nat) (H : ∀ q, K0 ≤ q → counterpanelaw3_LineAll.l3 q x i ((j : Int) + 1) = some true) (d : Nat) :
    ∀ (q : Nat) (n : Int), 0 ≤ n → n + d = 8 → K0 + d + 110 ≤ q → counterpanelaw3_LineAll.l4 q x i j n = some true := by
  induction d with
  | zero =>
    intro q n h0 h1 hq
    obtain ⟨q, rfl⟩ : ∃ m, q = m + 1 := ⟨q - 1, by omega⟩
    rw [counterpanelaw3_LineAll.l4, if_neg (by omega), wr _ (by omega) (by omega)]
    exact H q (by omega)
  | succ d ih =>
    intro q n h0 h1 hq
    obtain ⟨q, rfl⟩ : ∃ m, q = m + 1 := ⟨q - 1, by omega⟩
    rw [counterpanelaw3_LineAll.l4, if_pos (by omega), if_pos (by omega), if_pos (by omega), if_pos (by omega), if_pos (by omega), LineSides_all q (by omega), Option.bind_some, if_pos rfl, wr _ (by omega) (by omega)]
    exact ih q (n + 1) (by omega) (by omega) (by omega)
theorem all_l3 (x : List S23) (hx : x.length ≤ 60) (i : Nat) (hi : i < x.length) (K0 : Nat) (H : ∀ q, K0 ≤ q → counterpanelaw3_LineAll.l2 q x ((i : Int) + 1) = some true) (d : Nat) :
    ∀ (q j : Nat), j + d = x.length → K0 + d * 130 + 200 ≤ q → counterpanelaw3_LineAll.l3 q x i j = some true := by
  induction d with
  | zero =>
    intro q j hj hq
    obtain ⟨q, rfl⟩ : ∃ m, q = m + 1 := ⟨q - 1, by omega⟩
    rw [counterpanelaw3_LineAll.l3, if_neg (by omega), wr _ (by omega) (by omega)]
    exact H q (by omega)
  | succ d ih =>
    intro q j hj hq
    obtain ⟨q, rfl⟩ : ∃ m, q = m + 1 := ⟨q - 1, by omega⟩
    rw [counterpanelaw3_LineAll.l3, if_pos (by omega)]
    refine all_l4 x hx i j hi (by omega) (K0 + d * 130 + 200) (fun q' hq' => ?_) 8 q 0 (by omega) (by omega) ?_
    · have e := ih q' (j + 1) (by omega) hq'
      rw [show (((j + 1 : Nat)) : Int) = (j : Int) + 1 from by omega] at e
      exact e
    · omega
theorem all_l2 (x : List S23) (hx : x.length ≤ 60) (d : Nat) :
    ∀ (q i : Nat), i + d = x.length → d * 9000 + 100 ≤ q → counterpanelaw3_LineAll.l2 q x i = some true := by
  induction d with
  | zero =>
    intro q i hi hq
    obtain ⟨q, rfl⟩ : ∃ m, q = m + 4 := ⟨q - 4, by omega⟩
    rw [counterpanelaw3_LineAll.l2, if_neg (by omega), begun_f q, Option.bind_some]
  | succ d ih =>
    intro q i hi hq
    obtain ⟨q, rfl⟩ : ∃ m, q = m + 1 := ⟨q - 1, by omega⟩
    rw [counterpanelaw3_LineAll.l2, if_pos (by omega)]
    refine all_l3 x hx i (by omega) (d * 9000 + 100) (fun q' hq' => ?_) x.length q 0 (by omega) (by omega)
    have e := ih q' (i + 1) (by omega) hq'
    rw [show (((i + 1 : Nat)) : Int) = (i : Int) + 1 from by omega] at e
    exact e
theorem all_l1 (i K0 n : Nat) (hi : i < 6) (hn : n ≤ 60) (H : ∀ (q : Nat) (x : List S23), K0 ≤ q → x.length ≤ n → counterpanelaw3_LineAll.l0 q x ((i : Int) + 1) = some true) (d : Nat) :
    ∀ (q : Nat) (x : List S23) (j : Int), 0 ≤ j → j + d = 7 → x.length + d ≤ n → K0 + d + 1 ≤ q → counterpanelaw3_LineAll.l1 q x i j = some true := by
  induction d with
  | zero =>
    intro q x j h0 hj hx hq
    obtain ⟨q, rfl⟩ : ∃ m, q = m + 1 := ⟨q - 1, by omega⟩
    rw [counterpanelaw3_LineAll.l1, if_neg (by omega), wr _ (by omega) (by omega)]
    exact H q x (by omega) (by omega)
  | succ d ih =>
    intro q x j h0 hj hx hq
    obtain ⟨q, rfl⟩ : ∃ m, q = m + 1 := ⟨q - 1, by omega⟩
    rw [counterpanelaw3_LineAll.l1, if_pos (by omega), wr (j + 1) (by omega) (by omega)]
    have R : ∀ y : List S23, y.length + d ≤ n → counterpanelaw3_LineAll.l1 q y i (j + 1) = some true := fun y hy => ih q y (j + 1) (by omega) (by omega) hy (by omega)
    by_cases c : j = i
    · rw [if_pos c]; exact R x (by omega)
    · rw [if_neg c]
      by_cases c2 : j = wrap64 ((i : Int) + 1)
      · rw [if_pos c2]; exact R x (by omega)
      · rw [if_neg c2, if_pos (by omega)]
        exact R _ (by simp; omega)
theorem all_l0 (d : Nat) : ∀ (q : Nat) (x : List S23) (i : Nat), i + d = 6 → x.length ≤ i * 9 → d * 20 + 600000 ≤ q → counterpanelaw3_LineAll.l0 q x i = some true := by
  induction d with
  | zero =>
    intro q x i hi hx hq
    obtain ⟨q, rfl⟩ : ∃ m, q = m + 1 := ⟨q - 1, by omega⟩
    rw [counterpanelaw3_LineAll.l0, if_neg (by omega)]
    exact all_l2 x (by omega) x.length q 0 (by omega) (by omega)
  | succ d ih =>
    intro q x i hi hx hq
    obtain ⟨q, rfl⟩ : ∃ m, q = m + 1 := ⟨q - 1, by omega⟩
    rw [counterpanelaw3_LineAll.l0, if_pos (by omega), Option.bind_some, if_pos (by simp; omega)]
    refine all_l1 i (d * 20 + 600000) (i * 9 + 9) (by omega) (by omega) (fun q' y hq' hy => ?_) 7 q _ 0 (by omega) (by omega) (by simp; omega) (by omega)
    have e := ih q' y (i + 1) (by omega) (by omega) hq'
    rw [show (((i + 1 : Nat)) : Int) = (i : Int) + 1 from by omega] at e
    exact e
theorem LineAll_walk (w : World) : Calls Try.prog 6 #[] w fun e w' => e = .returned (.bool true) ∧ Below w.heap.size w w' :=
  counterpanelaw3_LineAll.calls 700000 true w (all_l0 6 700000 [] 0 (by omega) (by simp) (by omega))
end Go.Proofs.Ytopdjbmmcfjpcaa.PLineAll
