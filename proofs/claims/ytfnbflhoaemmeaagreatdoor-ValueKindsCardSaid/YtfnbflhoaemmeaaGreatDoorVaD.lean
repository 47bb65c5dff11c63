/- The printed value functions in plain words: May, Compare, Eq, Name, on both sides. Conditions: texts of at most 100000 bytes, enough rounds. -/
import Derived.Test.YtfnbflhoaemmeaaGreatDoorVaO
import Derived.Test.YtfnbflhoaemmeaaGreatDoorEVal4
import Derived.Test.YtfnbflhoaemmeaaGreatDoorEVal6
namespace Go.Proofs.YtfnbflhoaemmeaaGreatDoor.EVal
open Go.RowKit Go.Lib Go.Proofs.YtfnbflhoaemmeaaGreatDoorW.PrintWords Go.Proofs.YtfnbflhoaemmeaaGreatDoorW.PrintLast Go.Proofs.YtfnbflhoaemmeaaGreatDoor.Ext Go.Proofs.YtfnbflhoaemmeaaGreatDoor.EFxA Go.Proofs.YtfnbflhoaemmeaaGreatDoor.EFix
set_option linter.unusedVariables false
set_option linter.unusedSimpArgs false
theorem name_f (e : Int) : ∃ r, value_Name.f e = some r ∧ (by_ r = [] ↔ ¬ (1 ≤ e ∧ e ≤ 7)) := by
  unfold value_Name.f
  by_cases c1 : e = 1
  · subst c1; exact ⟨_, if_pos rfl, by decide⟩
  rw [if_neg c1]
  by_cases c2 : e = 2
  · subst c2; exact ⟨_, if_pos rfl, by decide⟩
  rw [if_neg c2]
  by_cases c3 : e = 3
  · subst c3; exact ⟨_, if_pos rfl, by decide⟩
  rw [if_neg c3]
  by_cases c4 : e = 4
  · subst c4; exact ⟨_, if_pos rfl, by decide⟩
  rw [if_neg c4]
  by_cases c5 : e = 5
  · subst c5; exact ⟨_, if_pos rfl, by decide⟩
  rw [if_neg c5]
  by_cases c6 : e = 6
  · subst c6; exact ⟨_, if_pos rfl, by decide⟩
  rw [if_neg c6]
  by_cases c7 : e = 7
  · subst c7; exact ⟨_, if_pos rfl, by decide⟩
  rw [if_neg c7]
  exact ⟨_, rfl, ⟨fun _ => by omega, fun _ => rfl⟩⟩
theorem may_f (k n : Int) (t : ByteArray) (b : Bool) (e : Int) (hs : t.size ≤ 9223372036854775807) : value_May.f k n t b e = some (mayS (k, n, t, b, e)) := by
  have hv : utf8_ValidString.f t = some (validD (by_ t)) := by unfold utf8_ValidString.f; rw [if_pos hs]; rfl
  obtain ⟨nm, h1, h2⟩ := name_f e
  unfold value_May.f mayS
  rw [hv, h1, to_by]
  simp only [Option.bind_some, to_by]
  have hl := by_len t
  by_cases k0 : k = 0
  · subst k0
    by_cases ht : by_ t = []
    · have hz : t.size = 0 := by rw [← hl, ht]; rfl
      by_cases hn : n = 0 <;> by_cases he : e = 0 <;> cases b <;> simp [hn, ht, he, hz, validD_nil]
    · by_cases hn : n = 0 <;> by_cases he : e = 0 <;> cases b <;> simp [hn, ht, he]
  by_cases k1 : k = 1
  · subst k1
    by_cases ht : by_ t = []
    · have hz : t.size = 0 := by rw [← hl, ht]; rfl
      by_cases hn : n = 0 <;> by_cases he : e = 0 <;> cases b <;> simp [hn, ht, he, hz, validD_nil]
    · by_cases hn : n = 0 <;> by_cases he : e = 0 <;> cases b <;> simp [hn, ht, he]
  by_cases k2 : k = 2
  · subst k2
    by_cases hz : t.size ≤ 200
    · have hz2 : (t.size : Int) ≤ 200 := by omega
      by_cases hn : n = 0 <;> by_cases he : e = 0 <;> cases b <;> simp [hn, he, hz, hz2]
    · have hz2 : ¬ (t.size : Int) ≤ 200 := by omega
      by_cases hn : n = 0 <;> by_cases he : e = 0 <;> cases b <;> simp [hn, he, hz, hz2]
  by_cases k3 : k = 3
  · subst k3
    by_cases ht : by_ t = []
    · have hz : t.size = 0 := by rw [← hl, ht]; rfl
      by_cases hn : n = 0 <;> by_cases he : e = 0 <;> cases b <;> simp [hn, ht, he, hz, validD_nil]
    · by_cases hn : n = 0 <;> by_cases he : e = 0 <;> cases b <;> simp [hn, ht, he]
  by_cases k4 : k = 4
  · subst k4
    by_cases g : 1 ≤ e ∧ e ≤ 7
    · have hb : ¬ by_ nm = [] := fun h => (h2.1 h) g
      by_cases ht : by_ t = []
      · have hz : t.size = 0 := by rw [← hl, ht]; rfl
        by_cases hn : n = 0 <;> cases b <;> simp [hn, ht, hb, hz, validD_nil, g]
      · by_cases hn : n = 0 <;> cases b <;> simp [hn, ht, hb, g]
    · have hb : by_ nm = [] := h2.2 g
      simp [hb, g]
  · simp [k0, k1, k2, k3, k4]
theorem refMay_f (K : Nat) (k n : Int) (t : ByteArray) (b : Bool) (e : Int) (hs : t.size ≤ 100000) (hK : 10 * t.size + 20 ≤ K) : counterpaneref1_May.f K k n t b e = some (mayS (k, n, t, b, e)) := by
  obtain ⟨K, rfl⟩ : ∃ m, K = m + 2 := ⟨K - 2, by omega⟩
  have hv := utf8_f t hs K (by omega)
  unfold counterpaneref1_May.f mayS
  simp only [counterpaneref1_May.j0, counterpaneref1_May.j1, hv, Option.bind_some, to_by]
  by_cases k0 : k = 0
  · subst k0
    by_cases ht : by_ t = [] <;> by_cases hn : n = 0 <;> by_cases he : e = 0 <;> cases b <;> simp [hn, ht, he]
  by_cases k1 : k = 1
  · subst k1
    by_cases ht : by_ t = [] <;> by_cases hn : n = 0 <;> by_cases he : e = 0 <;> cases b <;> simp [hn, ht, he]
  by_cases k2 : k = 2
  · subst k2
    by_cases hz : t.size ≤ 200
    · have hz2 : (t.size : Int) ≤ 200 := by omega
      by_cases hn : n = 0 <;> by_cases he : e = 0 <;> cases b <;> simp [hn, he, hz, hz2]
    · have hz2 : ¬ (t.size : Int) ≤ 200 := by omega
      by_cases hn : n = 0 <;> by_cases he : e = 0 <;> cases b <;> simp [hn, he, hz, hz2]
  by_cases k3 : k = 3
  · subst k3
    by_cases ht : by_ t = [] <;> by_cases hn : n = 0 <;> by_cases he : e = 0 <;> cases b <;> simp [hn, ht, he]
  by_cases k4 : k = 4
  · subst k4
    by_cases g : 1 ≤ e
    · by_cases g2 : e ≤ 7 <;> by_cases ht : by_ t = [] <;> by_cases hn : n = 0 <;> cases b <;> simp [hn, ht, g, g2]
    · by_cases ht : by_ t = [] <;> by_cases hn : n = 0 <;> cases b <;> simp [hn, ht, g]
  · by_cases ht : by_ t = [] <;> by_cases hn : n = 0 <;> by_cases he : e = 0 <;> cases b <;> simp [hn, ht, he, k0, k1, k2, k3, k4]
theorem may_def (k n : Int) (t : ByteArray) (b : Bool) (e : Int) (h : mayS (k, n, t, b, e) = true) :
    (k = 0 ∧ n = 0 ∧ by_ t = [] ∧ b = false ∧ e = 0) ∨ (k = 1 ∧ by_ t = [] ∧ b = false ∧ e = 0) ∨ (k = 2 ∧ n = 0 ∧ b = false ∧ e = 0 ∧ t.size ≤ 200) ∨ (k = 3 ∧ n = 0 ∧ by_ t = [] ∧ e = 0) ∨ (k = 4 ∧ n = 0 ∧ by_ t = [] ∧ b = false ∧ 1 ≤ e ∧ e ≤ 7) := by
  unfold mayS at h
  simp only [Bool.and_eq_true, Bool.or_eq_true, decide_eq_true_eq, Bool.not_eq_true'] at h
  obtain ⟨⟨⟨⟨h1, h2⟩, h3⟩, h4⟩, h5⟩ := h
  rcases h5 with (h5 | h5) | h5
  · rcases h5 with h5 | h5 | h5 <;> subst h5 <;> simp_all
  · obtain ⟨h5, h6, h7⟩ := h5
    subst h5; simp_all
  · obtain ⟨h5, h6⟩ := h5
    subst h5; simp_all
theorem rank_le (v : V5) (h : mayS v = true) : rankS v = v.1 ∧ 0 ≤ v.1 ∧ v.1 ≤ 4 := by
  obtain ⟨k, n, t, b, e⟩ := v
  refine ⟨by unfold rankS; rw [if_pos h], ?_⟩
  rcases may_def k n t b e h with g | g | g | g | g <;> (have := g.1; simp only; omega)
theorem rank_no (v : V5) (h : ¬ mayS v = true) : rankS v = 5 := by unfold rankS; rw [if_neg h]
theorem rank_f (k n : Int) (t : ByteArray) (b : Bool) (e : Int) (hs : t.size ≤ 9223372036854775807) : value_rank.f k n t b e = some (rankS (k, n, t, b, e)) := by
  unfold value_rank.f rankS
  rw [may_f k n t b e hs, Option.bind_some]
  split <;> rfl
theorem cmpInt_f (a b : Int) : cmp_Compare_int.f a b = some (cmpI a b) := by
  unfold cmp_Compare_int.f cmp_isNaN_int.f cmpI
  simp only [bne_self_eq_false, Option.bind_some, Bool.false_eq_true, if_false]
  by_cases h : a < b
  · rw [if_pos h, if_pos h]
  · rw [if_neg h, if_neg h]
    by_cases g : b < a
    · rw [if_pos g, if_pos g]
    · rw [if_neg g, if_neg g]
theorem cmpFix_f (a b : Int) : api_Fix_39.f a b = some (cmpI a b) := by
  unfold api_Fix_39.f api_Fix_64.f cmpI
  simp only [bne_self_eq_false, Option.bind_some, Bool.false_eq_true, if_false]
  by_cases h : a < b
  · rw [if_pos h, if_pos h]
  · rw [if_neg h, if_neg h]
    by_cases g : b < a
    · rw [if_pos g, if_pos g]
    · rw [if_neg g, if_neg g]
theorem truth_f (b : Bool) : value_truth.f b = some (tbI b) := by cases b <;> rfl
theorem or_f (K : Nat) (x y z v : Int) (hK : 6 ≤ K) : cmp_Or_int.f K [x, y, z, v] = some (if x = 0 then (if y = 0 then (if z = 0 then v else z) else y) else x) := by
  obtain ⟨K, rfl⟩ : ∃ m, K = m + 5 := ⟨K - 5, by omega⟩
  have w0 : wrap64 ((0 : Int) + 1) = 1 := wr _ (by decide) (by decide)
  have w1 : wrap64 ((1 : Int) + 1) = 2 := wr _ (by decide) (by decide)
  have w2 : wrap64 ((2 : Int) + 1) = 3 := wr _ (by decide) (by decide)
  have w3 : wrap64 ((3 : Int) + 1) = 4 := wr _ (by decide) (by decide)
  have hl : (([x, y, z, v] : List Int).length : Int) = 4 := rfl
  have r0 : rd [x, y, z, v] 0 = x := rfl
  have r1 : rd [x, y, z, v] 1 = y := rfl
  have r2 : rd [x, y, z, v] 2 = z := rfl
  have r3 : rd [x, y, z, v] 3 = v := rfl
  unfold cmp_Or_int.f
  rw [hl, cmp_Or_int.l0, if_pos (by omega), if_pos (by omega), hl, if_pos (by omega), r0, w0]
  by_cases c0 : x = 0
  · rw [if_pos c0, if_pos c0, cmp_Or_int.l0, if_pos (by omega), if_pos (by omega), hl, if_pos (by omega), r1, w1]
    by_cases c1 : y = 0
    · rw [if_pos c1, if_pos c1, cmp_Or_int.l0, if_pos (by omega), if_pos (by omega), hl, if_pos (by omega), r2, w2]
      by_cases c2 : z = 0
      · rw [if_pos c2, if_pos c2, cmp_Or_int.l0, if_pos (by omega), if_pos (by omega), hl, if_pos (by omega), r3, w3]
        by_cases c3 : v = 0
        · rw [if_pos c3, cmp_Or_int.l0, if_neg (by omega), c3]
        · rw [if_neg c3]
      · rw [if_neg c2, if_neg c2]
    · rw [if_neg c1, if_neg c1]
  · rw [if_neg c0, if_neg c0]
theorem key_yes (v : V5) (h : mayS v = true) : keyS v = v := by unfold keyS; rw [if_pos h]
theorem key_no (v : V5) (h : ¬ mayS v = true) : keyS v = (5, 0, ByteArray.empty, false, 0) := by unfold keyS; rw [if_neg h]
theorem tb_rng (a b : Bool) : wrap64 (tbI a - tbI b) = tbI a - tbI b := by cases a <;> cases b <;> exact wr _ (by decide) (by decide)
theorem compare_f (K : Nat) (a b : V5) (ha : a.2.2.1.size ≤ 9223372036854775807) (hb : b.2.2.1.size ≤ 9223372036854775807) (hK : 10 ≤ K) :
    value_Compare.f K a.1 a.2.1 a.2.2.1 a.2.2.2.1 a.2.2.2.2 b.1 b.2.1 b.2.2.1 b.2.2.2.1 b.2.2.2.2 = some (cmpS a b) := by
  obtain ⟨K, rfl⟩ : ∃ m, K = m + 1 := ⟨K - 1, by omega⟩
  unfold value_Compare.f
  rw [rank_f _ _ _ _ _ ha, rank_f _ _ _ _ _ hb, Option.bind_some, Option.bind_some, cmpInt_f, Option.bind_some]
  simp only [value_Compare.j0, if_true]
  show (if cmpI (rankS a) (rankS b) = 0 then _ else _) = _
  by_cases h : cmpI (rankS a) (rankS b) = 0
  · rw [if_pos h]
    have hr := (cmpI_ord.eq _ _).1 h
    by_cases g : mayS a = true
    · have ra := rank_le a g
      have gb : mayS b = true := Decidable.byContradiction fun h2 => by have := rank_no b h2; omega
      have rb := rank_le b gb
      rw [if_neg (by show ¬ (decide (rankS a > 4) = true); rw [decide_eq_true_eq]; omega), cmpFix_f, Option.bind_some]
      unfold strings_Compare.f
      rw [Option.bind_some, truth_f, truth_f, Option.bind_some, Option.bind_some, cmpInt_f, Option.bind_some, or_f _ _ _ _ _ (by omega), Option.bind_some, tb_rng]
      unfold cmpS
      rw [key_yes a g, key_yes b gb]
      have h0 : cmpI a.1 b.1 = 0 := by rw [ra.1, rb.1] at h; exact h
      unfold cmpV lexC
      rw [if_pos h0]
      rfl
    · have ra := rank_no a g
      have gb : ¬ mayS b = true := fun h2 => by have := rank_le b h2; omega
      rw [if_pos (by show decide (rankS a > 4) = true; rw [decide_eq_true_eq]; omega)]
      unfold cmpS
      rw [key_no a g, key_no b gb]
      exact congrArg some (h.trans ((cmpV_ord.eq _ _).2 rfl).symm)
  · rw [if_neg h]
    unfold cmpS cmpV lexC
    rw [rank_key, rank_key, if_neg h]
theorem cmpI_self (a : Int) : cmpI a a = 0 := (cmpI_ord.eq a a).2 rfl
theorem cmpB_self (a : ByteArray) : compareBytes (by_ a) (by_ a) = 0 := (cmpB_ord.eq a a).2 rfl
theorem empty_by {t : ByteArray} (h : by_ t = []) : t = ByteArray.empty := by_inj (h.trans rfl)
theorem lex_same {α β : Type} (c : α → α → Int) (d : β → β → Int) (a b : α × β) (h : c a.1 b.1 = 0) : lexC c d a b = d a.2 b.2 := by unfold lexC; rw [if_pos h]
theorem begun2_f (K : Nat) (hK : 30 ≤ K) : counterpanelaw2_begun.f K = some true := by
  have e1 : parseS [50, 46, 53] = (25000, true) := by decide +kernel
  have p1 : fixnum_Parse.f (⟨#[50, 46, 53]⟩ : ByteArray) = some (25000, true) := by
    rw [parse_f _ (by decide)]; exact congrArg some e1
  have m1 : mayS (2, 0, (⟨#[50, 46, 53]⟩ : ByteArray), false, 0) = true := by decide +kernel
  have m2 : mayS (3, 0, (⟨#[]⟩ : ByteArray), true, 0) = true := by decide +kernel
  have m3 : mayS (4, 0, (⟨#[]⟩ : ByteArray), false, 4) = true := by decide +kernel
  have m4 : mayS (4, 0, (⟨#[]⟩ : ByteArray), false, 2) = true := by decide +kernel
  have m5 : mayS (0, 0, (⟨#[]⟩ : ByteArray), false, 0) = true := by decide +kernel
  have c1 : cmpS (1, 1, (⟨#[]⟩ : ByteArray), false, 0) (2, 0, (⟨#[]⟩ : ByteArray), false, 0) = -1 := by decide +kernel
  have n1 : value_Number.f 2 0 (⟨#[50, 46, 53]⟩ : ByteArray) false 0 = some (25000, 0) := by
    unfold value_Number.f value_wrong.f
    rw [may_f _ _ _ _ _ (by decide), m1, Option.bind_some, if_pos rfl, if_neg (by decide), Option.bind_some, if_neg (by decide), if_neg (by decide), if_neg (by decide), if_pos rfl, p1, Option.bind_some, if_pos rfl]
  have n2 : value_Text.f 3 0 (⟨#[]⟩ : ByteArray) true 0 = some ((⟨#[84, 82, 85, 69]⟩ : ByteArray), 0) := by
    unfold value_Text.f value_wrong.f
    rw [may_f _ _ _ _ _ (by decide), m2, Option.bind_some, if_pos rfl, if_neg (by decide), Option.bind_some, if_neg (by decide), if_neg (by decide), if_pos rfl, if_pos rfl]
  have n3 := compare_f K (1, 1, (⟨#[]⟩ : ByteArray), false, 0) (2, 0, (⟨#[]⟩ : ByteArray), false, 0) (by decide) (by decide) (by omega)
  rw [c1] at n3
  simp only at n3
  obtain ⟨K, rfl⟩ : ∃ m, K = m + 3 := ⟨K - 3, by omega⟩
  have n4 : value_Worst.f (K + 3) [(⟨4, 0, (⟨#[]⟩ : ByteArray), false, 4⟩ : S24), (⟨4, 0, (⟨#[]⟩ : ByteArray), false, 2⟩ : S24)] = some 2 := by
    have w0 : wrap64 ((0 : Int) + 1) = 1 := wr _ (by decide) (by decide)
    have w1 : wrap64 ((1 : Int) + 1) = 2 := wr _ (by decide) (by decide)
    have r0 : rd_T24 [(⟨4, 0, (⟨#[]⟩ : ByteArray), false, 4⟩ : S24), (⟨4, 0, (⟨#[]⟩ : ByteArray), false, 2⟩ : S24)] 0 = ⟨4, 0, (⟨#[]⟩ : ByteArray), false, 4⟩ := rfl
    have r1 : rd_T24 [(⟨4, 0, (⟨#[]⟩ : ByteArray), false, 4⟩ : S24), (⟨4, 0, (⟨#[]⟩ : ByteArray), false, 2⟩ : S24)] 1 = ⟨4, 0, (⟨#[]⟩ : ByteArray), false, 2⟩ := rfl
    unfold value_Worst.f
    rw [value_Worst.l0, if_pos (by decide), if_pos (by decide), if_pos (by decide), r0]
    simp only
    rw [if_pos trivial, may_f _ _ _ _ _ (by decide), m3, Option.bind_some, if_pos rfl, if_pos trivial, w0, value_Worst.l0, if_pos (by decide), if_pos (by decide), if_pos (by decide), r1]
    simp only
    rw [if_pos trivial, may_f _ _ _ _ _ (by decide), m4, Option.bind_some, if_pos rfl, if_neg (by decide), if_pos (by decide), w1, value_Worst.l0, if_neg (by decide)]
  have n5 : value_Name.f 1 = some (⟨#[35, 82, 69, 70, 33]⟩ : ByteArray) := by unfold value_Name.f; rw [if_pos rfl]
  have n6 := may_f 0 0 (⟨#[]⟩ : ByteArray) false 0 (by decide)
  rw [m5] at n6
  unfold counterpanelaw2_begun.f counterpaneref1_Txt.f counterpaneref1_Boo.f counterpaneref1_Num.f counterpaneref1_Err.f
  simp only [Option.bind_some, n1, n2, n3, n4, n5, n6, to_by]
  rfl
end Go.Proofs.YtfnbflhoaemmeaaGreatDoor.EVal
