/- The printed functions of the package axis, by their plain meaning. Conditions: enough rounds. -/
import Derived.Test.YtopdjbmmcfjpcaaOLineListsLaw
import Derived.Test.YtopdjbmmcfjpcaaLinePlain
namespace Go.Proofs.Ytopdjbmmcfjpcaa.PLineLists
open Go.RowKit Go.Proofs.YtopdjbmmcfjpcaaW.PrintWords Go.Proofs.YtopdjbmmcfjpcaaW.PrintLast Go.Proofs.Ytopdjbmmcfjpcaa.LinePlain
theorem wr (x : Int) (h : -9223372036854775808 ≤ x) (h' : x ≤ 9223372036854775807) : wrap64 x = x := by unfold wrap64; omega
theorem beqd (a b : Int) : (a == b) = decide (a = b) := by by_cases h : a = b <;> simp [h]
theorem number_f (a : Int) : axis_number.f a = some (decide (0 ≤ a ∧ a < 2199023255552)) := by
  unfold axis_number.f
  by_cases h : a ≥ 0
  · rw [if_pos h]; congr 1; exact decide_eq_decide.2 (by omega)
  · rw [if_neg h]; congr 1; exact (decide_eq_false (by omega)).symm
theorem asked_f (a : Int) : axis_asked.f a = some (decide (0 ≤ a ∧ a ≤ 1152921504606846976)) := by
  unfold axis_asked.f
  by_cases h : a ≥ 0
  · rw [if_pos h]; congr 1; exact decide_eq_decide.2 (by omega)
  · rw [if_neg h]; congr 1; exact (decide_eq_false (by omega)).symm
theorem less_f (n a : Int) (h : -9223372036854775808 ≤ a) (h' : n ≤ 9223372036854775807) : axis_less.f n a = some (less n a) := by
  unfold axis_less.f less
  by_cases c : n > a
  · rw [if_pos c, if_pos c, wr _ (by omega) (by omega)]
  · rw [if_neg c, if_neg c]
theorem may_f (k : Nat) (kd a t : Int) : axis_May.f (k + 1) kd a t = some (decide (MayP kd a t)) := by
  unfold axis_May.f
  have e : ∀ c : Bool, (c = true ↔ (kd = 1 ∨ kd = 2)) → axis_May.j0 (k + 1) kd c kd a t = some (decide (MayP kd a t)) := by
    intro c hc
    simp only [axis_May.j0, number_f, Option.bind_some]
    by_cases h1 : c = true
    · rw [if_pos h1]
      by_cases h2 : 0 ≤ a ∧ a < 2199023255552
      · rw [if_pos (decide_eq_true h2), beqd]
        congr 1; refine decide_eq_decide.2 ?_
        have := hc.1 h1; unfold MayP; omega
      · rw [if_neg (by simpa using h2)]
        congr 1; refine (decide_eq_false ?_).symm
        unfold MayP; omega
    · rw [if_neg h1]
      have hn : ¬ (kd = 1 ∨ kd = 2) := fun h => h1 (hc.2 h)
      by_cases h3 : kd = 3
      · rw [if_pos h3]
        by_cases h2 : 0 ≤ a ∧ a < 2199023255552
        · rw [if_pos (decide_eq_true h2)]
          by_cases h4 : 0 ≤ t ∧ t < 2199023255552
          · rw [if_pos (decide_eq_true h4)]
            by_cases h5 : t = a
            · rw [if_pos h5]; congr 1; refine (decide_eq_false ?_).symm; unfold MayP; omega
            · rw [if_neg h5, wr _ (by omega) (by omega), bne, beqd, ← decide_not]
              congr 1; refine decide_eq_decide.2 ?_; unfold MayP; omega
          · rw [if_neg (by simpa using h4)]; congr 1; refine (decide_eq_false ?_).symm; unfold MayP; omega
        · rw [if_neg (by simpa using h2)]; congr 1; refine (decide_eq_false ?_).symm; unfold MayP; omega
      · rw [if_neg h3]; congr 1; refine (decide_eq_false ?_).symm; unfold MayP; omega
  by_cases h : kd = 1
  · rw [if_pos h]; exact e _ (by simp [h])
  · rw [if_neg h]; exact e _ (by simp [h])
theorem index_f (k : Nat) (kd a t i : Int) : axis_Index.f (k + 1) kd a t i = some (ix kd a t i) := by
  unfold axis_Index.f
  rw [asked_f, Option.bind_some]
  unfold ix
  by_cases h : 0 ≤ i ∧ i ≤ 1152921504606846976
  · rw [if_pos (decide_eq_true h), may_f, Option.bind_some]
    rw [axis_Index.j0]
    by_cases hm : MayP kd a t
    · have hc : 0 ≤ i ∧ i ≤ 1152921504606846976 ∧ MayP kd a t := ⟨h.1, h.2, hm⟩
      have hn : ¬ ((!decide (MayP kd a t)) = true) := by simp [hm]
      rw [if_neg hn, if_pos hc]
      have a0 : 0 ≤ a ∧ a < 2199023255552 ∧ 0 ≤ t ∧ t < 2199023255552 := by unfold MayP at hm; omega
      have hk : kd = 1 ∨ kd = 2 ∨ kd = 3 := by unfold MayP at hm; omega
      unfold ixv
      rcases hk with rfl | rfl | rfl
      · simp only [if_true, ins]
        by_cases c : i ≥ a
        · rw [if_pos c, if_pos c, wr _ (by omega) (by omega)]
        · rw [if_neg c, if_neg c]
      · simp only [Int.reduceEq, if_false, if_true, less_f i a (by omega) (by omega), Option.bind_some]
        by_cases c : i = a
        · rw [if_pos c, if_pos c]
        · rw [if_neg c, if_neg c]
      · simp only [Int.reduceEq, if_false, less_f i a (by omega) (by omega), less_f t a (by omega) (by omega), Option.bind_some, mv]
        have r : less i a ≤ i ∧ 0 ≤ less i a := by unfold less; omega
        by_cases c : i = a
        · rw [if_pos c, if_pos c]
        · rw [if_neg c, if_neg c]
          unfold ins
          by_cases d : less i a ≥ less t a
          · rw [if_pos d, if_pos d, wr _ (by omega) (by omega)]
          · rw [if_neg d, if_neg d]
    · have hc : ¬ (0 ≤ i ∧ i ≤ 1152921504606846976 ∧ MayP kd a t) := fun h => hm h.2.2
      have hn : (!decide (MayP kd a t)) = true := by simp [hm]
      rw [if_pos hn, if_neg hc]
  · rw [if_neg (by simpa using h), if_neg (by omega)]
    rw [axis_Index.j0, if_pos rfl]
theorem gap_f (k : Nat) (kd a t i : Int) (b : Bool) : axis_Gap.f (k + 1) kd a t i b = some (gp kd a t i b) := by
  unfold axis_Gap.f
  rw [asked_f, Option.bind_some]
  unfold gp
  by_cases h : 0 ≤ i ∧ i ≤ 1152921504606846976
  · rw [if_pos (decide_eq_true h), may_f, Option.bind_some]
    rw [axis_Gap.j0]
    by_cases hm : MayP kd a t
    · have hc : 0 ≤ i ∧ i ≤ 1152921504606846976 ∧ MayP kd a t := ⟨h.1, h.2, hm⟩
      have hn : ¬ ((!decide (MayP kd a t)) = true) := by simp [hm]
      rw [if_neg hn, if_pos hc]
      have a0 : 0 ≤ a ∧ a < 2199023255552 ∧ 0 ≤ t ∧ t < 2199023255552 := by unfold MayP at hm; omega
      have hk : kd = 1 ∨ kd = 2 ∨ kd = 3 := by unfold MayP at hm; omega
      unfold gpv
      have G : ∀ x y : Int, 0 ≤ x → x ≤ 1152921504606846976 → (if x > y then some (wrap64 (x + 1)) else if x = y then (if b = true then some (wrap64 (x + 1)) else some x) else some x) = some (insb x y b) := by
        intro x y hx hx'
        rw [wr _ (by omega) (by omega)]
        unfold insb
        by_cases c : x > y
        · rw [if_pos c, if_pos (.inl c)]
        · rw [if_neg c]
          by_cases d : x = y
          · rw [if_pos d]
            by_cases e : b = true
            · rw [if_pos e, if_pos (.inr ⟨d, e⟩)]
            · rw [if_neg e, if_neg (by intro h; exact h.elim c (fun h => e h.2))]
          · rw [if_neg d, if_neg (by intro h; exact h.elim c (fun h => d h.1))]
      rcases hk with rfl | rfl | rfl
      · simp only [Int.reduceEq, if_true, if_false]
        exact G i a (by omega) (by omega)
      · simp only [Int.reduceEq, if_false, if_true, less_f i a (by omega) (by omega), Option.bind_some]
      · simp only [Int.reduceEq, if_false, if_true, less_f i a (by omega) (by omega), less_f t a (by omega) (by omega), Option.bind_some, mg]
        have r : less i a ≤ i ∧ 0 ≤ less i a := by unfold less; omega
        exact G (less i a) (less t a) (by omega) (by omega)
    · have hc : ¬ (0 ≤ i ∧ i ≤ 1152921504606846976 ∧ MayP kd a t) := fun h => hm h.2.2
      have hn : (!decide (MayP kd a t)) = true := by simp [hm]
      rw [if_pos hn, if_neg hc]
  · rw [if_neg (by simpa using h), if_neg (by omega)]
    rw [axis_Gap.j0, if_pos rfl]
theorem back_f (k : Nat) (kd a t i : Int) : axis_Back.f (k + 2) kd a t i = some (bk kd a t i) := by
  unfold axis_Back.f
  rw [asked_f, Option.bind_some]
  unfold bk
  by_cases h : 0 ≤ i ∧ i ≤ 1152921504606846976
  · rw [if_pos (decide_eq_true h), may_f, Option.bind_some]
    rw [axis_Back.j0]
    by_cases hm : MayP kd a t
    · have hc : 0 ≤ i ∧ i ≤ 1152921504606846976 ∧ MayP kd a t := ⟨h.1, h.2, hm⟩
      have hn : ¬ ((!decide (MayP kd a t)) = true) := by simp [hm]
      rw [if_neg hn, if_pos hc]
      have a0 : 0 ≤ a ∧ a < 2199023255552 ∧ 0 ≤ t ∧ t < 2199023255552 := by unfold MayP at hm; omega
      have hk : kd = 1 ∨ kd = 2 ∨ kd = 3 := by unfold MayP at hm; omega
      unfold bkv
      rcases hk with rfl | rfl | rfl
      · simp only [if_true, less_f i a (by omega) (by omega), Option.bind_some]
        by_cases c : i = a
        · rw [if_pos c, if_pos c]
        · rw [if_neg c, if_neg c]
      · simp only [Int.reduceEq, if_false, if_true, axis_Back.j1, wr (i + 1) (by omega) (by omega)]
        unfold ins
        by_cases c : i = 1152921504606846976 ∧ i ≥ a
        · rw [if_pos c, if_pos c.1, if_pos (decide_eq_true c.2)]
        · rw [if_neg c]
          by_cases d : i = 1152921504606846976
          · rw [if_pos d, if_neg (by simp; omega), if_neg (by omega), if_neg (by omega)]
          · rw [if_neg d, if_neg (by simp)]
            by_cases e : i ≥ a
            · rw [if_pos e, if_pos e]
            · rw [if_neg e, if_neg e]
      · have r : 0 ≤ less t a ∧ less t a ≤ t := by
          unfold MayP at hm
          unfold less; omega
        simp only [Int.reduceEq, if_false, less_f t a (by omega) (by omega), less_f i (less t a) (by omega) (by omega), Option.bind_some]
        have r2 : less i (less t a) ≤ i ∧ 0 ≤ less i (less t a) := by unfold less at r ⊢; omega
        by_cases c : i = less t a
        · rw [if_pos c, if_pos c]
        · rw [if_neg c, if_neg c]
          unfold ins
          by_cases d : less i (less t a) ≥ a
          · rw [if_pos d, if_pos d, wr _ (by omega) (by omega)]
          · rw [if_neg d, if_neg d]
    · have hc : ¬ (0 ≤ i ∧ i ≤ 1152921504606846976 ∧ MayP kd a t) := fun h => hm h.2.2
      have hn : (!decide (MayP kd a t)) = true := by simp [hm]
      rw [if_pos hn, if_neg hc]
  · rw [if_neg (by simpa using h), if_neg (by omega)]
    rw [axis_Back.j0, if_pos rfl]
theorem transform_f (k : Nat) (kd a t l b s : Int) (pr : Bool) : axis_Transform.f (k + 3) kd a t l b s pr = some (tr kd a t l b s pr) := by
  unfold axis_Transform.f
  have J0 : axis_Transform.j0 (k + 3) pr true kd a t l b s = some (0, 0, 0, false) := by rw [axis_Transform.j0, if_pos rfl]
  rw [may_f, Option.bind_some]
  unfold tr
  by_cases ha : MayP kd a t
  · rw [if_pos (decide_eq_true ha), may_f, Option.bind_some]
    by_cases hb : MayP l b s
    · rw [decide_eq_true hb, Bool.not_true]
      have J1 : ∀ x, axis_Transform.j1 (k + 2) pr kd x t l b s = some (if MayP kd x (if kd = 3 then gp l b s t (!pr) else t) then (kd, x, (if kd = 3 then gp l b s t (!pr) else t), true) else (0, 0, 0, false)) := by
        intro x
        simp only [axis_Transform.j1, gap_f, may_f, Option.bind_some]
        by_cases h3 : kd = 3
        · simp only [if_pos h3]
          by_cases y : MayP kd x (gp l b s t (!pr))
          · rw [if_pos (decide_eq_true y), if_pos y]
          · rw [if_neg (by simpa using y), if_neg y]
        · simp only [if_neg h3]
          by_cases y : MayP kd x t
          · rw [if_pos (decide_eq_true y), if_pos y]
          · rw [if_neg (by simpa using y), if_neg y]
      rw [axis_Transform.j0, if_neg (by simp)]
      simp only [gap_f, index_f, Option.bind_some, J1]
      by_cases c : kd = 3 ∧ l = 3 ∧ a = b ∧ pr = true
      · have hc : ¬ (MayP kd a t ∧ MayP l b s ∧ ¬ (kd = 3 ∧ l = 3 ∧ a = b ∧ pr = true)) := fun h => h.2.2 c
        rw [if_neg hc]
        obtain ⟨rfl, rfl, rfl, rfl⟩ := c
        simp only [Int.reduceEq, if_false, if_true]
      · have hc : MayP kd a t ∧ MayP l b s ∧ ¬ (kd = 3 ∧ l = 3 ∧ a = b ∧ pr = true) := ⟨ha, hb, c⟩
        rw [if_pos hc]
        by_cases h1 : kd = 1
        · simp only [if_pos h1]
        · simp only [if_neg h1]
          by_cases h3 : kd = 3
          · rw [if_pos h3]
            by_cases h4 : l = 3
            · rw [if_pos h4]
              by_cases h5 : a = b
              · rw [if_pos h5, if_neg (fun h => c ⟨h3, h4, h5, h⟩)]
              · rw [if_neg h5]
            · rw [if_neg h4]
          · rw [if_neg h3]
    · rw [decide_eq_false hb, Bool.not_false, J0, if_neg (show ¬ (MayP kd a t ∧ MayP l b s ∧ ¬ (kd = 3 ∧ l = 3 ∧ a = b ∧ pr = true)) from fun h => hb h.2.1)]
  · rw [if_neg (by simpa using ha), J0, if_neg (show ¬ (MayP kd a t ∧ MayP l b s ∧ ¬ (kd = 3 ∧ l = 3 ∧ a = b ∧ pr = true)) from fun h => ha h.1)]
theorem begun_f (k : Nat) : counterpanelaw3_begun.f (k + 3) = some true := by
  unfold counterpanelaw3_begun.f
  simp only [transform_f, may_f, index_f, back_f, gap_f, Option.bind_some]
  decide +kernel
theorem refmay_f (k : Nat) (kd a t : Int) : counterpaneref3_May.f (k + 2) kd a t = some (decide (MayP kd a t)) := by
  have J : ∀ c : Bool, (c = true ↔ ¬ (0 ≤ a ∧ a < 2199023255552 ∧ 0 ≤ t ∧ t < 2199023255552)) → counterpaneref3_May.j0 (k + 2) c kd a t = some (decide (MayP kd a t)) := by
    intro c hc
    rw [counterpaneref3_May.j0]
    by_cases h1 : c = true
    · rw [if_pos h1]; congr 1; refine (decide_eq_false ?_).symm; have := hc.1 h1; unfold MayP; omega
    · rw [if_neg h1]
      have hb : 0 ≤ a ∧ a < 2199023255552 ∧ 0 ≤ t ∧ t < 2199023255552 := Classical.byContradiction fun h => h1 (hc.2 h)
      have K : ∀ d : Bool, (d = true ↔ (kd = 1 ∨ kd = 2)) → counterpaneref3_May.j1 (k + 1) kd d kd a t = some (decide (MayP kd a t)) := by
        intro d hd
        rw [counterpaneref3_May.j1]
        by_cases h2 : d = true
        · rw [if_pos h2, beqd]; congr 1; refine decide_eq_decide.2 ?_; have := hd.1 h2; unfold MayP; omega
        · rw [if_neg h2]
          have hn : ¬ (kd = 1 ∨ kd = 2) := fun h => h2 (hd.2 h)
          by_cases h3 : kd = 3
          · rw [if_pos h3]
            by_cases h5 : t = a
            · rw [if_pos h5]; congr 1; refine (decide_eq_false ?_).symm; unfold MayP; omega
            · rw [if_neg h5, wr _ (by omega) (by omega), bne, beqd, ← decide_not]
              congr 1; refine decide_eq_decide.2 ?_; unfold MayP; omega
          · rw [if_neg h3]; congr 1; refine (decide_eq_false ?_).symm; unfold MayP; omega
      by_cases h : kd = 1
      · rw [if_pos h]; exact K _ (by simp [h])
      · rw [if_neg h]; exact K _ (by simp [h])
  unfold counterpaneref3_May.f
  by_cases h1 : a < 0
  · rw [if_pos h1]; exact J true (by simp; omega)
  · rw [if_neg h1]
    by_cases h2 : a ≥ 2199023255552
    · rw [if_pos h2]; exact J true (by simp; omega)
    · rw [if_neg h2]
      by_cases h3 : t < 0
      · rw [if_pos h3]; exact J true (by simp; omega)
      · rw [if_neg h3]; exact J _ (by simp; omega)
def ms (m : Int) (s : S23) : Prop := MayP s.f0 s.f1 s.f2 ∧ s.f1 ≤ m ∧ s.f2 ≤ m
def go1 (s : S23) (i : Int) : Int := go (s.f0, s.f1, s.f2, true) i
def goo (ok : Bool) (s : S23) (i : Int) : Int := go (s.f0, s.f1, s.f2, ok) i
def alongF : List S23 → Int → Int
  | [], i => i
  | s :: l, i => alongF l (go1 s i)
def trS (a b : S23) (p : Bool) : Int × Int × Int × Bool := tr a.f0 a.f1 a.f2 b.f0 b.f1 b.f2 p
def toS (r : Int × Int × Int × Bool) : S23 := ⟨r.1, r.2.1, r.2.2.1⟩
def inner : Bool → S23 → List S23 → Bool × S23 × List S23
  | ok, x, [] => (ok, x, [])
  | false, x, r :: rs => ((inner false x rs).1, (inner false x rs).2.1, r :: (inner false x rs).2.2)
  | true, x, r :: rs => ((inner (trS x r true).2.2.2 (toS (trS x r true)) rs).1, (inner (trS x r true).2.2.2 (toS (trS x r true)) rs).2.1,
      if (trS r x false).2.2.2 = true then toS (trS r x false) :: (inner (trS x r true).2.2.2 (toS (trS x r true)) rs).2.2 else (inner (trS x r true).2.2.2 (toS (trS x r true)) rs).2.2)
def outer : List S23 → List S23 → List S23 × List S23
  | [], rest => ([], rest)
  | a :: av, rest => ((if (inner true a rest).1 = true then (inner true a rest).2.1 :: (outer av (inner true a rest).2.2).1 else (outer av (inner true a rest).2.2).1), (outer av (inner true a rest).2.2).2)
theorem go1_neg (s : S23) (i : Int) (h : i < 0) : go1 s i = i := go_neg _ _ h
theorem goo_neg (ok : Bool) (s : S23) (i : Int) (h : i < 0) : goo ok s i = i := go_neg _ _ h
theorem goo_false (s : S23) (i : Int) : goo false s i = i := by unfold goo go; rw [if_pos (.inr rfl)]
theorem along_neg (l : List S23) (i : Int) (h : i < 0) : alongF l i = i := by
  induction l with
  | nil => rfl
  | cons s l ih => show alongF l (go1 s i) = i; rw [go1_neg s i h]; exact ih
theorem go1_ix (s : S23) (i : Int) (h : 0 ≤ i) : go1 s i = ix s.f0 s.f1 s.f2 i := by
  unfold go1 go; rw [if_neg (by simp; omega)]
theorem go1_le (s : S23) (i m : Int) (hs : ms m s) (hi : i ≤ m) (h : m ≤ N) : go1 s i ≤ m + 1 := by
  by_cases h0 : i < 0
  · rw [go1_neg s i h0]; omega
  · have hN : N = 1099511628776 := rfl
    rw [go1_ix s i (by omega), ix_ixv _ _ _ _ hs.1 (by omega) (by omega)]
    have := ixv_range s.f0 s.f1 s.f2 i hs.1 (by omega)
    have := hs.2
    omega
theorem goo_tr (a b : S23) (p : Bool) (i : Int) : goo (trS a b p).2.2.2 (toS (trS a b p)) i = go (trS a b p) i := rfl
theorem ms_mono {m m' : Int} {s : S23} (h : ms m s) (hm : m ≤ m') : ms m' s := ⟨h.1, by have := h.2; omega, by have := h.2; omega⟩
theorem ms_tr (a b : S23) (p : Bool) (m : Int) (ha : ms m a) (hb : ms m b) (hm : m ≤ N) (ok : (trS a b p).2.2.2 = true) : ms (m + 1) (toS (trS a b p)) := by
  have h := tr_bound a.f0 a.f1 a.f2 b.f0 b.f1 b.f2 p ha.1 hb.1 (by have := ha.2; omega) (by have := hb.2; omega) (by have := ha.2; omega) m ⟨ha.2.1, ha.2.2, hb.2.2⟩ ok
  exact ⟨h.1, h.2.2.1, h.2.2.2⟩
theorem sidesS (a b : S23) (m i : Int) (ha : ms m a) (hb : ms m b) (hm : m ≤ N) (hi : i ≤ m) : go (trS b a false) (go1 a i) = go (trS a b true) (go1 b i) := by
  by_cases h : i < 0
  · rw [go1_neg a i h, go1_neg b i h, go_neg _ _ h, go_neg _ _ h]
  · have hN : N = 1099511628776 := rfl
    have := ha.2; have := hb.2
    rw [go1_ix a i (by omega), go1_ix b i (by omega)]
    exact sides a.f0 a.f1 a.f2 b.f0 b.f1 b.f2 i ha.1 hb.1 (by omega) (by omega) (by omega) (by omega) (by omega) (by omega)
theorem inner_law (rest : List S23) : ∀ (ok : Bool) (x : S23) (m i : Int), (ok = true → ms m x) → (∀ r, r ∈ rest → ms m r) → m + rest.length ≤ N → i ≤ m →
    alongF (inner ok x rest).2.2 (goo ok x i) = goo (inner ok x rest).1 (inner ok x rest).2.1 (alongF rest i) ∧ ((inner ok x rest).1 = true → ms (m + rest.length) (inner ok x rest).2.1) ∧
    (∀ r, r ∈ (inner ok x rest).2.2 → ms (m + rest.length) r) ∧ (inner ok x rest).2.2.length ≤ rest.length := by
  induction rest with
  | nil =>
    intro ok x m i hx _ _ _
    cases ok
    · refine ⟨rfl, (fun h => by cases h), (fun r hr => by cases hr), Nat.le_refl _⟩
    · refine ⟨rfl, (fun _ => by simpa [inner] using hx rfl), (fun r hr => by cases hr), Nat.le_refl _⟩
  | cons r rs ih =>
    intro ok x m i hx hr hm hi
    have hl : ((r :: rs).length : Int) = rs.length + 1 := by simp
    rw [hl] at hm
    have hrm := hr r (List.mem_cons_self ..)
    cases ok with
    | false =>
      obtain ⟨i1, i2, i3, i4⟩ := ih false x (m + 1) (go1 r i) (fun h => by cases h) (fun q hq => ms_mono (hr q (List.mem_cons_of_mem _ hq)) (by omega)) (by omega) (go1_le r i m hrm hi (by omega))
      rw [hl]
      have e : m + 1 + (rs.length : Int) = m + ((rs.length : Int) + 1) := by omega
      rw [e] at i2 i3
      refine ⟨?_, i2, ?_, by simpa [inner] using i4⟩
      · show alongF (r :: (inner false x rs).2.2) (goo false x i) = _
        rw [goo_false]
        rw [goo_false] at i1
        exact i1
      · intro q hq
        have hq' : q ∈ r :: (inner false x rs).2.2 := hq
        rcases List.mem_cons.1 hq' with rfl | h
        · exact ms_mono hrm (by omega)
        · exact i3 q h
    | true =>
      have hxm := hx rfl
      obtain ⟨i1, i2, i3, i4⟩ := ih (trS x r true).2.2.2 (toS (trS x r true)) (m + 1) (go1 r i) (fun h => ms_tr x r true m hxm hrm (by omega) h) (fun q hq => ms_mono (hr q (List.mem_cons_of_mem _ hq)) (by omega)) (by omega) (go1_le r i m hrm hi (by omega))
      rw [hl]
      have e : m + 1 + (rs.length : Int) = m + ((rs.length : Int) + 1) := by omega
      rw [e] at i2 i3
      rw [goo_tr, ← sidesS x r m i hxm hrm (by omega) hi] at i1
      generalize hR : inner (trS x r true).2.2.2 (toS (trS x r true)) rs = R at i1 i2 i3 i4
      have hI : inner true x (r :: rs) = (R.1, R.2.1, if (trS r x false).2.2.2 = true then toS (trS r x false) :: R.2.2 else R.2.2) := by
        rw [← hR]; rfl
      rw [hI]
      have hx1 : goo true x i = go1 x i := rfl
      by_cases c : (trS r x false).2.2.2 = true
      · rw [if_pos c]
        refine ⟨?_, i2, ?_, by simpa using i4⟩
        · show alongF R.2.2 (go1 (toS (trS r x false)) (goo true x i)) = goo R.1 R.2.1 (alongF rs (go1 r i))
          rw [← i1, hx1]
          have : go1 (toS (trS r x false)) (go1 x i) = go (trS r x false) (go1 x i) := by
            unfold go1 toS; rw [← c]
          rw [this]
        · intro q hq
          rcases List.mem_cons.1 hq with rfl | h
          · exact ms_mono (ms_tr r x false m hrm hxm (by omega) c) (by omega)
          · exact i3 q h
      · rw [if_neg c]
        have c' : (trS r x false).2.2.2 = false := by simpa using c
        refine ⟨?_, i2, i3, Nat.le_succ_of_le i4⟩
        show alongF R.2.2 (goo true x i) = goo R.1 R.2.1 (alongF rs (go1 r i))
        rw [← i1, hx1]
        have : go (trS r x false) (go1 x i) = go1 x i := by
          unfold go; rw [if_pos (.inr c')]
        rw [this]
theorem outer_law (n : Nat) (av : List S23) : ∀ (rest : List S23) (m i : Int), rest.length ≤ n → (∀ r, r ∈ av → ms m r) → (∀ r, r ∈ rest → ms m r) → m + av.length * (n + 1) + n ≤ N → i ≤ m →
    alongF (outer av rest).2 (alongF av i) = alongF (outer av rest).1 (alongF rest i) := by
  induction av with
  | nil => intro rest m i _ _ _ _ _; rfl
  | cons a av ih =>
    intro rest m i hn ha hr hm hi
    have hl : (((a :: av).length : Nat) : Int) * ((n : Int) + 1) = av.length * ((n : Int) + 1) + ((n : Int) + 1) := by
      simp only [List.length_cons, Int.natCast_add, Int.natCast_one]
      rw [Int.add_mul, Int.one_mul]
    rw [hl] at hm
    have hp : 0 ≤ (av.length : Int) * ((n : Int) + 1) := Int.mul_nonneg (by omega) (by omega)
    have ham := ha a (List.mem_cons_self ..)
    obtain ⟨i1, i2, i3, i4⟩ := inner_law rest true a m i (fun _ => ham) hr (by omega) hi
    have g := ih (inner true a rest).2.2 (m + (n + 1)) (go1 a i) (by omega) (fun q hq => ms_mono (ha q (List.mem_cons_of_mem _ hq)) (by omega)) (fun q hq => ms_mono (i3 q hq) (by omega)) (by omega) (by have := go1_le a i m ham hi (by omega); omega)
    have hx1 : goo true a i = go1 a i := rfl
    rw [hx1] at i1
    rw [i1] at g
    show alongF (outer av (inner true a rest).2.2).2 (alongF av (go1 a i)) = alongF (if (inner true a rest).1 = true then (inner true a rest).2.1 :: (outer av (inner true a rest).2.2).1 else (outer av (inner true a rest).2.2).1) (alongF rest i)
    rw [g]
    by_cases c : (inner true a rest).1 = true
    · rw [if_pos c, c]; rfl
    · have c' : (inner true a rest).1 = false := by simpa using c
      rw [if_neg c, c', goo_false]
theorem rd_at (xs : List S23) (i : Nat) (h : i < xs.length) : rd_T23 xs (i : Int) = xs[i] := by
  unfold rd_T23
  rw [Int.toNat_natCast, List.getD_eq_getElem?_getD, List.getElem?_eq_getElem h]; rfl
theorem along_l (d : Nat) : ∀ (k : Nat) (l : List S23) (j : Nat) (i : Int), j + d = l.length → l.length ≤ 1000 → d + 2 ≤ k → counterpanelaw3_along.l0 k l i j = some (alongF (l.drop j) i) := by
  induction d with
  | zero =>
    intro k l j i hj hl hk
    obtain ⟨k, rfl⟩ : ∃ m, k = m + 1 := ⟨k - 1, by omega⟩
    rw [counterpanelaw3_along.l0, if_neg (by omega), List.drop_eq_nil_of_le (by omega)]; rfl
  | succ d ih =>
    intro k l j i hj hl hk
    obtain ⟨k, rfl⟩ : ∃ m, k = m + 2 := ⟨k - 2, by omega⟩
    rw [counterpanelaw3_along.l0, if_pos (by omega)]
    have hlt : j < l.length := by omega
    by_cases h : i ≥ 0
    · rw [if_pos h, if_pos (by omega), rd_at l j hlt, index_f k, Option.bind_some, wr _ (by omega) (by omega), List.drop_eq_getElem_cons hlt]
      have e := ih (k + 1) l (j + 1) (ix l[j].f0 l[j].f1 l[j].f2 i) (by omega) hl (by omega)
      rw [show (((j + 1 : Nat)) : Int) = (j : Int) + 1 from by omega] at e
      rw [e]
      show _ = some (alongF (l.drop (j + 1)) (go1 l[j] i))
      rw [go1_ix _ _ (by omega)]
    · rw [if_neg h, along_neg _ _ (by omega)]
theorem along_f (k : Nat) (l : List S23) (i : Int) (hl : l.length ≤ 1000) (hk : l.length + 2 ≤ k) : counterpanelaw3_along.f k l i = some (alongF l i) := by
  have h := along_l l.length k l 0 i (by omega) hl hk
  rw [List.drop_zero] at h
  exact h
theorem inner_l (d : Nat) : ∀ (k : Nat) (x0 out rest next : List S23) (i : Int) (j : Nat) (ok : Bool) (x : S23) (K0 : Nat) (res : List S23 × List S23), j + d = rest.length → rest.length ≤ 1000 → next.length ≤ j → out.length ≤ 1000 → d + K0 + 6 ≤ k →
    (∀ k', K0 ≤ k' → counterpanelaw3_lists.l0 k' x0 (if (inner ok x (rest.drop j)).1 = true then out ++ [(inner ok x (rest.drop j)).2.1] else out) (next ++ (inner ok x (rest.drop j)).2.2) (wrap64 (i + 1)) = some res) →
    counterpanelaw3_lists.l1 k x0 out rest i ok next j x.f0 x.f1 x.f2 = some res := by
  induction d with
  | zero =>
    intro k x0 out rest next i j ok x K0 res hj hl hn ho hk H
    obtain ⟨k, rfl⟩ : ∃ m, k = m + 1 := ⟨k - 1, by omega⟩
    rw [List.drop_eq_nil_of_le (by omega)] at H
    have H' := H k (by omega)
    rw [counterpanelaw3_lists.l1, if_neg (by omega)]
    have e : inner ok x [] = (ok, x, []) := by cases ok <;> rfl
    rw [e, List.append_nil] at H'
    by_cases c : ok = true
    · rw [if_pos c, if_pos (by omega)]
      rw [if_pos c] at H'; exact H'
    · rw [if_neg c]
      rw [if_neg c] at H'; exact H'
  | succ d ih =>
    intro k x0 out rest next i j ok x K0 res hj hl hn ho hk H
    obtain ⟨k, rfl⟩ : ∃ m, k = m + 4 := ⟨k - 4, by omega⟩
    have hlt : j < rest.length := by omega
    rw [List.drop_eq_getElem_cons hlt] at H
    rw [counterpanelaw3_lists.l1, if_pos (by omega)]
    cases ok with
    | true =>
      rw [if_pos rfl, if_pos (by omega), rd_at rest j hlt, transform_f k, Option.bind_some, transform_f k, Option.bind_some, wr (j + 1) (by omega) (by omega)]
      by_cases c : (tr rest[j].f0 rest[j].f1 rest[j].f2 x.f0 x.f1 x.f2 false).2.2.2 = true
      · rw [if_pos c, if_pos (by omega)]
        refine ih (k + 3) x0 out rest (next ++ [_]) i (j + 1) _ (toS (trS x rest[j] true)) K0 res (by omega) hl (by simp; omega) ho (by omega) ?_
        intro k' hk'
        rw [← H k' hk', List.append_assoc]
        have c' : (trS rest[j] x false).2.2.2 = true := c
        simp only [inner, if_pos c']
        rfl
      · rw [if_neg c]
        refine ih (k + 3) x0 out rest next i (j + 1) _ (toS (trS x rest[j] true)) K0 res (by omega) hl (by omega) ho (by omega) ?_
        intro k' hk'
        rw [← H k' hk']
        have c' : ¬ (trS rest[j] x false).2.2.2 = true := c
        simp only [inner, if_neg c']
        rfl
    | false =>
      rw [if_neg (by simp), if_pos (by omega), if_pos (by omega), rd_at rest j hlt, wr (j + 1) (by omega) (by omega)]
      refine ih (k + 3) x0 out rest (next ++ [_]) i (j + 1) false x K0 res (by omega) hl (by simp; omega) ho (by omega) ?_
      intro k' hk'
      rw [← H k' hk', List.append_assoc]
      rfl
theorem outer_l (d : Nat) : ∀ (k : Nat) (x0 out rest : List S23) (j : Nat), j + d = x0.length → x0.length ≤ 100 → rest.length ≤ 100 → out.length ≤ j → d * 200 + 10 ≤ k →
    (∀ x : S23, ∀ r : List S23, (inner true x r).2.2.length ≤ r.length) →
    counterpanelaw3_lists.l0 k x0 out rest j = some (out ++ (outer (x0.drop j) rest).1, (outer (x0.drop j) rest).2) := by
  induction d with
  | zero =>
    intro k x0 out rest j hj hl hr ho hk _
    obtain ⟨k, rfl⟩ : ∃ m, k = m + 1 := ⟨k - 1, by omega⟩
    rw [counterpanelaw3_lists.l0, if_neg (by omega), List.drop_eq_nil_of_le (by omega)]
    simp [outer]
  | succ d ih =>
    intro k x0 out rest j hj hl hr ho hk hI
    obtain ⟨k, rfl⟩ : ∃ m, k = m + 1 := ⟨k - 1, by omega⟩
    have hlt : j < x0.length := by omega
    rw [counterpanelaw3_lists.l0, if_pos (by omega), if_pos (by omega), rd_at x0 j hlt]
    refine inner_l rest.length k x0 out rest [] j 0 true x0[j] (d * 200 + 10) _ (by omega) (by omega) (by simp) (by omega) (by omega) ?_
    intro k' hk'
    rw [List.drop_zero, List.nil_append, wr (j + 1) (by omega) (by omega), List.drop_eq_getElem_cons hlt]
    have hle := hI x0[j] rest
    have e := ih k' x0 (if (inner true x0[j] rest).1 = true then out ++ [(inner true x0[j] rest).2.1] else out) (inner true x0[j] rest).2.2 (j + 1) (by omega) hl (by omega) (by split <;> (try simp) <;> omega) (by omega) hI
    rw [show (((j + 1 : Nat)) : Int) = (j : Int) + 1 from by omega] at e
    rw [e]
    by_cases c : (inner true x0[j] rest).1 = true
    · simp only [outer, if_pos c, List.append_assoc, List.singleton_append]
    · simp only [outer, if_neg c]
theorem inner_len (r : List S23) : ∀ (ok : Bool) (x : S23), (inner ok x r).2.2.length ≤ r.length := by
  induction r with
  | nil => intro ok x; cases ok <;> simp [inner]
  | cons a r ih =>
    intro ok x
    cases ok with
    | false => simpa [inner] using ih false x
    | true =>
      simp only [inner]
      have := ih (trS x a true).2.2.2 (toS (trS x a true))
      split <;> simp <;> omega
theorem outer_len (av : List S23) : ∀ rest : List S23, (outer av rest).1.length ≤ av.length ∧ (outer av rest).2.length ≤ rest.length := by
  induction av with
  | nil => intro rest; simp [outer]
  | cons a av ih =>
    intro rest
    have h1 := ih (inner true a rest).2.2
    have h2 := inner_len rest true a
    simp only [outer]
    refine ⟨?_, by omega⟩
    split <;> simp <;> omega
theorem lists_f (k : Nat) (a b : List S23) (ha : a.length ≤ 100) (hb : b.length ≤ 100) (hk : a.length * 200 + 10 ≤ k) : counterpanelaw3_lists.f k a b = some (outer a b) := by
  have h := outer_l a.length k a [] b 0 (by omega) ha hb (by simp) hk (fun x r => inner_len r true x)
  rw [List.drop_zero, List.nil_append] at h
  exact h
theorem l2_run (x y p q : List S23) (hx : x.length ≤ 6) (hy : y.length ≤ 6) (hp : p.length ≤ 6) (hq : q.length ≤ 6) (H : ∀ i : Int, 0 ≤ i → i < 30 → alongF q (alongF x i) = alongF p (alongF y i)) (d : Nat) :
    ∀ (k : Nat) (i : Int), 0 ≤ i → i + d = 30 → d * 2 + 20 ≤ k → counterpanelaw3_LineLists.l2 k true x y p q i = some true := by
  induction d with
  | zero =>
    intro k i h0 h1 hk
    obtain ⟨k, rfl⟩ : ∃ m, k = m + 1 := ⟨k - 1, by omega⟩
    rw [counterpanelaw3_LineLists.l2, if_neg (by omega)]
  | succ d ih =>
    intro k i h0 h1 hk
    obtain ⟨k, rfl⟩ : ∃ m, k = m + 2 := ⟨k - 2, by omega⟩
    have e := H i h0 (by omega)
    rw [counterpanelaw3_LineLists.l2, if_pos (by omega), along_f (k + 1) x i (by omega) (by omega), Option.bind_some, along_f (k + 1) y i (by omega) (by omega), Option.bind_some]
    have J : ∀ v : Int, v = alongF q (alongF x i) → counterpanelaw3_LineLists.j5 (k + 1) true x y p q i v (alongF y i) = some true := by
      intro v hv
      rw [counterpanelaw3_LineLists.j5]
      by_cases c : alongF y i ≥ 0
      · rw [if_pos c, along_f k p _ (by omega) (by omega), Option.bind_some, if_pos (hv.trans e), wr _ (by omega) (by omega)]
        exact ih k (i + 1) (by omega) (by omega) (by omega)
      · rw [if_neg c, if_pos (by rw [hv, e, along_neg _ _ (by omega)]), wr _ (by omega) (by omega)]
        exact ih k (i + 1) (by omega) (by omega) (by omega)
    by_cases c : alongF x i ≥ 0
    · rw [if_pos c, along_f (k + 1) q _ (by omega) (by omega), Option.bind_some]
      exact J _ rfl
    · rw [if_neg c]
      exact J _ (along_neg _ _ (by omega)).symm
theorem law_run (x y : List S23) (hx : x.length ≤ 6) (hy : y.length ≤ 6) (mx : ∀ s, s ∈ x → ms 549755813888 s) (my : ∀ s, s ∈ y → ms 549755813888 s) (k : Nat) (hk : 2000 ≤ k) :
    ((counterpanelaw3_lists.f k x y).bind fun bt191 => (counterpanelaw3_LineLists.l2 k true x y bt191.1 bt191.2 0)) = some true := by
  rw [lists_f k x y (by omega) (by omega) (by omega), Option.bind_some]
  have hN : N = 1099511628776 := rfl
  have hl := outer_len x y
  have hm : (x.length : Int) * (((6 : Nat) : Int) + 1) ≤ 42 := by
    have : (x.length : Int) ≤ 6 := by omega
    calc (x.length : Int) * (((6 : Nat) : Int) + 1) ≤ 6 * (((6 : Nat) : Int) + 1) := Int.mul_le_mul_of_nonneg_right this (by omega)
      _ ≤ 42 := by decide
  exact l2_run x y _ _ hx hy (by omega) (by omega) (fun i h0 h1 => outer_law 6 x y 549755813888 i hy mx my (by omega) (by omega)) 30 k 0 (by omega) (by omega) (by omega)
theorem ms_of {s : S23} (h : MayP s.f0 s.f1 s.f2) (h1 : s.f1 < 549755813888) (h2 : s.f2 < 549755813888) : ms 549755813888 s := ⟨h, by omega, by omega⟩
theorem ms_snoc {y : List S23} (my : ∀ s, s ∈ y → ms 549755813888 s) {s : S23} (hs : ms 549755813888 s) : ∀ r, r ∈ y ++ [s] → ms 549755813888 r := by
  intro r hr
  rcases List.mem_append.1 hr with h | h
  · exact my r h
  · rw [List.mem_singleton.1 h]; exact hs
theorem l1_run (x : List S23) (hx : x.length ≤ 6) (mx : ∀ s, s ∈ x → ms 549755813888 s) (b : List S23) (d : Nat) :
    ∀ (k : Nat) (y : List S23) (j : Nat), j + d = 6 → y.length ≤ j → (∀ s, s ∈ y → ms 549755813888 s) → d * 2 + 2010 ≤ k → counterpanelaw3_LineLists.l1 k b true x y j = some true := by
  have J : ∀ (k j : Nat) (y : List S23), 2001 ≤ k → y.length ≤ 6 → (∀ s, s ∈ y → ms 549755813888 s) → counterpanelaw3_LineLists.j3 k b true x y j false = some true := by
    intro k j y hk hy my
    obtain ⟨k, rfl⟩ : ∃ m, k = m + 1 := ⟨k - 1, by omega⟩
    rw [counterpanelaw3_LineLists.j3, if_neg (by simp)]
    exact law_run x y hx hy mx my k (by omega)
  induction d with
  | zero =>
    intro k y j hj hy my hk
    obtain ⟨k, rfl⟩ : ∃ m, k = m + 1 := ⟨k - 1, by omega⟩
    rw [counterpanelaw3_LineLists.l1]
    by_cases c : (j : Int) < b.length
    · rw [if_pos c, decide_eq_false (by omega)]
      exact J k j y (by omega) (by omega) my
    · rw [if_neg c]; exact J k j y (by omega) (by omega) my
  | succ d ih =>
    intro k y j hj hy my hk
    obtain ⟨k, rfl⟩ : ∃ m, k = m + 4 := ⟨k - 4, by omega⟩
    rw [counterpanelaw3_LineLists.l1]
    by_cases c : (j : Int) < b.length
    · have hlt : j < b.length := by omega
      rw [if_pos c, decide_eq_true (by omega), counterpanelaw3_LineLists.j3, if_pos rfl, if_pos (by omega), if_pos c, rd_at b j hlt, refmay_f k, Option.bind_some, wr _ (by omega) (by omega)]
      have R : ∀ y' : List S23, y'.length ≤ j + 1 → (∀ s, s ∈ y' → ms 549755813888 s) → counterpanelaw3_LineLists.l1 (k + 2) b true x y' ((j : Int) + 1) = some true := by
        intro y' h1 h2
        have e := ih (k + 2) y' (j + 1) (by omega) h1 h2 (by omega)
        rw [show (((j + 1 : Nat)) : Int) = (j : Int) + 1 from by omega] at e
        exact e
      by_cases hm : MayP b[j].f0 b[j].f1 b[j].f2
      · rw [if_pos (decide_eq_true hm)]
        by_cases h1 : b[j].f1 < 549755813888
        · rw [if_pos h1]
          by_cases h2 : b[j].f2 < 549755813888
          · rw [if_pos h2, if_pos (by omega)]
            exact R _ (by simp; omega) (ms_snoc my (ms_of hm h1 h2))
          · rw [if_neg h2]; exact R y (by omega) my
        · rw [if_neg h1]; exact R y (by omega) my
      · rw [if_neg (by rw [decide_eq_false hm]; decide)]; exact R y (by omega) my
    · rw [if_neg c]; exact J (k + 3) j y (by omega) (by omega) my
theorem l0_run (a b : List S23) (d : Nat) :
    ∀ (k : Nat) (x : List S23) (j : Nat), j + d = 6 → x.length ≤ j → (∀ s, s ∈ x → ms 549755813888 s) → d * 2 + 2030 ≤ k → counterpanelaw3_LineLists.l0 k a b true x j = some true := by
  have J : ∀ (k j : Nat) (x : List S23), 2024 ≤ k → x.length ≤ 6 → (∀ s, s ∈ x → ms 549755813888 s) → counterpanelaw3_LineLists.j1 k a b true x [] j false = some true := by
    intro k j x hk hx mx
    obtain ⟨k, rfl⟩ : ∃ m, k = m + 1 := ⟨k - 1, by omega⟩
    rw [counterpanelaw3_LineLists.j1, if_neg (by simp)]
    exact l1_run x hx mx b 6 k [] 0 (by omega) (by simp) (fun s h => by cases h) (by omega)
  induction d with
  | zero =>
    intro k x j hj hx mx hk
    obtain ⟨k, rfl⟩ : ∃ m, k = m + 1 := ⟨k - 1, by omega⟩
    rw [counterpanelaw3_LineLists.l0]
    by_cases c : (j : Int) < a.length
    · rw [if_pos c, decide_eq_false (by omega)]
      exact J k j x (by omega) (by omega) mx
    · rw [if_neg c]; exact J k j x (by omega) (by omega) mx
  | succ d ih =>
    intro k x j hj hx mx hk
    obtain ⟨k, rfl⟩ : ∃ m, k = m + 4 := ⟨k - 4, by omega⟩
    rw [counterpanelaw3_LineLists.l0]
    by_cases c : (j : Int) < a.length
    · have hlt : j < a.length := by omega
      rw [if_pos c, decide_eq_true (by omega), counterpanelaw3_LineLists.j1, if_pos rfl, if_pos (by omega), if_pos c, rd_at a j hlt, refmay_f k, Option.bind_some, wr _ (by omega) (by omega)]
      have R : ∀ y' : List S23, y'.length ≤ j + 1 → (∀ s, s ∈ y' → ms 549755813888 s) → counterpanelaw3_LineLists.l0 (k + 2) a b true y' ((j : Int) + 1) = some true := by
        intro y' h1 h2
        have e := ih (k + 2) y' (j + 1) (by omega) h1 h2 (by omega)
        rw [show (((j + 1 : Nat)) : Int) = (j : Int) + 1 from by omega] at e
        exact e
      by_cases hm : MayP a[j].f0 a[j].f1 a[j].f2
      · rw [if_pos (decide_eq_true hm)]
        by_cases h1 : a[j].f1 < 549755813888
        · rw [if_pos h1]
          by_cases h2 : a[j].f2 < 549755813888
          · rw [if_pos h2, if_pos (by omega)]
            exact R _ (by simp; omega) (ms_snoc mx (ms_of hm h1 h2))
          · rw [if_neg h2]; exact R x (by omega) mx
        · rw [if_neg h1]; exact R x (by omega) mx
      · rw [if_neg (by rw [decide_eq_false hm]; decide)]; exact R x (by omega) mx
    · rw [if_neg c]; exact J (k + 3) j x (by omega) (by omega) mx
theorem LineLists_pure (a b : List S23) : ∃ k, counterpanelaw3_LineLists.f k a b = some true := by
  refine ⟨2100, ?_⟩
  unfold counterpanelaw3_LineLists.f
  rw [begun_f 2097, Option.bind_some, if_pos rfl]
  exact l0_run a b 6 2100 [] 0 (by omega) (by simp) (fun s h => by cases h) (by omega)
theorem LineLists_walk (A0 : Option Addr) (c0 : Nat) (l0 : List S23) (A1 : Option Addr) (c1 : Nat) (l1 : List S23) (w : World) (hr0 : Kd.C k23 w A0 l0.length l0) (hc0 : l0.length ≤ c0) (hr1 : Kd.C k23 w A1 l1.length l1) (hc1 : l1.length ≤ c1) :
    Calls Try.prog 7 #[.slice A0 l0.length c0, .slice A1 l1.length c1] w fun e w' => e = .returned (.bool true) ∧ Below w.heap.size w w' := by
  obtain ⟨k, h⟩ := LineLists_pure l0 l1
  exact counterpanelaw3_LineLists.calls k A0 c0 l0 A1 c1 l1 true w hr0 hc0 hr1 hc1 h
end Go.Proofs.Ytopdjbmmcfjpcaa.PLineLists
