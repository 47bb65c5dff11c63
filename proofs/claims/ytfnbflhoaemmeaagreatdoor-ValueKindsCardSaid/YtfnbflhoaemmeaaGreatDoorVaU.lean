/- The reference's Utf8 is utf8.ValidString's own reading (Lib.validD). Conditions: texts of at most 100000 bytes, enough rounds. -/
import Derived.Test.YtfnbflhoaemmeaaGreatDoorEVal5
import Derived.Test.YtfnbflhoaemmeaaGreatDoorFixP
import Derived.Lib.ValidLaws
namespace Go.Proofs.YtfnbflhoaemmeaaGreatDoor.EVal
open Go.RowKit Go.Lib Go.Proofs.YtfnbflhoaemmeaaGreatDoorW.PrintWords Go.Proofs.YtfnbflhoaemmeaaGreatDoorW.PrintLast Go.Proofs.YtfnbflhoaemmeaaGreatDoor.Ext Go.Proofs.YtfnbflhoaemmeaaGreatDoor.EFxA Go.Proofs.YtfnbflhoaemmeaaGreatDoor.EFix
set_option linter.unusedVariables false
/-- the byte j places behind i -/
def B (x : ByteArray) (i j : Nat) : Nat := (((by_ x).drop i).getD j 0).toNat
theorem B_lt (x : ByteArray) (i j : Nat) : B x i j < 256 := UInt8.toNat_lt _
theorem bt_B (x : ByteArray) (i j : Nat) (h : i + j < x.size) : bt x ((i : Int) + (j : Int)) = (B x i j : Int) := by
  have hl := by_len x
  have e : ((i : Int) + (j : Int)) = ((i + j : Nat) : Int) := by omega
  rw [e, bt_by x (i + j) (by omega)]
  unfold B
  rw [List.getD_eq_getElem?_getD, List.getElem?_drop, List.getElem?_eq_getElem (by omega)]
  rfl
theorem bt_B0 (x : ByteArray) (i : Nat) (h : i < x.size) : bt x (i : Int) = (B x i 0 : Int) := by
  have := bt_B x i 0 (by omega)
  rw [show ((i : Int) + ((0 : Nat) : Int)) = (i : Int) by omega] at this
  exact this
theorem bt_B1 (x : ByteArray) (i : Nat) (h : i + 1 < x.size) : bt x ((i : Int) + 1) = (B x i 1 : Int) := bt_B x i 1 h
theorem bt_B2 (x : ByteArray) (i : Nat) (h : i + 2 < x.size) : bt x ((i : Int) + 2) = (B x i 2 : Int) := bt_B x i 2 h
theorem bt_B3 (x : ByteArray) (i : Nat) (h : i + 3 < x.size) : bt x ((i : Int) + 3) = (B x i 3 : Int) := bt_B x i 3 h
theorem run_step (k : Nat) (x : ByteArray) (i n j : Nat) (hs : x.size ≤ 100000) (hj : j ≤ n) (hn : i + n < x.size) :
    counterpaneref1_Utf8.l1 (k + 1) x i n j = if B x i j < 128 ∨ 191 < B x i j then some false else counterpaneref1_Utf8.l1 k x i n (j + 1 : Nat) := by
  have e1 : wrap64 ((i : Int) + (j : Int)) = (i : Int) + (j : Int) := wr _ (by omega) (by omega)
  have e2 : wrap64 ((j : Int) + 1) = ((j + 1 : Nat) : Int) := by rw [wr _ (by omega) (by omega)]; omega
  rw [counterpaneref1_Utf8.l1, e1, e2, bt_B x i j (by omega), if_pos (by omega), if_pos (by omega), if_pos (by omega)]
  by_cases c : B x i j < 128
  · rw [if_pos (by omega), if_pos (.inl c)]
  · rw [if_neg (by omega)]
    by_cases d : 191 < B x i j
    · rw [if_pos (by omega), if_pos (.inr d)]
    · rw [if_neg (by omega), if_neg (by omega)]
theorem run_end (k : Nat) (x : ByteArray) (i n : Nat) (hs : x.size ≤ 100000) (hn : i + n < x.size) :
    counterpaneref1_Utf8.l1 (k + 1) x i n (n + 1 : Nat) = counterpaneref1_Utf8.l0 k x ((i + (n + 1) : Nat) : Int) := by
  have e1 : wrap64 ((n : Int) + 1) = (n : Int) + 1 := wr _ (by omega) (by omega)
  have e2 : wrap64 ((i : Int) + ((n : Int) + 1)) = ((i + (n + 1) : Nat) : Int) := by rw [wr _ (by omega) (by omega)]; omega
  rw [counterpaneref1_Utf8.l1, e1, e2, if_neg (by omega)]
theorem j3_eq (k : Nat) (x : ByteArray) (i c n : Nat) (hs : x.size ≤ 100000) (hn : n ≤ 3) (h1 : 1 ≤ n) (hi : i < x.size) :
    counterpaneref1_Utf8.j3 (k + 2) x i c n = if x.size ≤ i + n then some false else if (c = 224 ∧ B x i 1 < 160) ∨ (c = 237 ∧ 159 < B x i 1) ∨ (c = 240 ∧ B x i 1 < 144) ∨ (c = 244 ∧ 143 < B x i 1) then some false else counterpaneref1_Utf8.l1 k x i n (1 : Nat) := by
  have e1 : wrap64 ((i : Int) + (n : Int)) = (i : Int) + (n : Int) := wr _ (by omega) (by omega)
  have e2 : wrap64 ((i : Int) + 1) = (i : Int) + 1 := wr _ (by omega) (by omega)
  rw [counterpaneref1_Utf8.j3, e1, e2]
  by_cases c0 : x.size ≤ i + n
  · rw [if_pos (by omega), if_pos c0]
  · rw [if_neg (by omega), if_neg c0, if_pos (by omega), if_pos (by omega), bt_B1 x i (by omega)]
    simp only [counterpaneref1_Utf8.j4, decide_eq_true_eq, if_true, Bool.false_eq_true, if_false]
    generalize B x i 1 = b
    by_cases d1 : c = 224
    · subst d1
      by_cases f : b < 160
      · rw [if_pos (by omega), if_pos (by omega), if_pos (by omega)]
      · rw [if_pos (by omega), if_neg (by omega), if_neg (by omega), if_neg (by omega), if_neg (by omega), if_neg (by omega)]
        rfl
    · rw [if_neg (by omega)]
      by_cases d2 : c = 237
      · subst d2
        by_cases f : 159 < b
        · rw [if_pos (by omega), if_pos (by omega), if_pos (by omega)]
        · rw [if_pos (by omega), if_neg (by omega), if_neg (by omega), if_neg (by omega), if_neg (by omega)]
          rfl
      · rw [if_neg (by omega)]
        by_cases d3 : c = 240
        · subst d3
          by_cases f : b < 144
          · rw [if_pos (by omega), if_pos (by omega), if_pos (by omega)]
          · rw [if_pos (by omega), if_neg (by omega), if_neg (by omega), if_neg (by omega)]
            rfl
        · rw [if_neg (by omega)]
          by_cases d4 : c = 244
          · subst d4
            by_cases f : 143 < b
            · rw [if_pos (by omega), if_pos (by omega), if_pos (by omega)]
            · rw [if_pos (by omega), if_neg (by omega), if_neg (by omega)]
              rfl
          · rw [if_neg (by omega), if_neg (by omega)]
            rfl
/-- the loop over one, two, three bytes -/
def okB (b : Nat) : Prop := 128 ≤ b ∧ b ≤ 191
instance (b : Nat) : Decidable (okB b) := inferInstanceAs (Decidable (_ ∧ _))
theorem run_1 (k : Nat) (x : ByteArray) (i : Nat) (hs : x.size ≤ 100000) (hn : i + 1 < x.size) :
    counterpaneref1_Utf8.l1 (k + 2) x i (1 : Nat) (1 : Nat) = if okB (B x i 1) then counterpaneref1_Utf8.l0 k x ((i + 2 : Nat) : Int) else some false := by
  rw [run_step (k + 1) x i 1 1 hs (by omega) (by omega), run_end k x i 1 hs (by omega)]
  by_cases c1 : okB (B x i 1)
  · rw [if_neg (by unfold okB at c1; omega), if_pos c1]
  · rw [if_pos (by unfold okB at c1; omega), if_neg c1]
theorem run_2 (k : Nat) (x : ByteArray) (i : Nat) (hs : x.size ≤ 100000) (hn : i + 2 < x.size) :
    counterpaneref1_Utf8.l1 (k + 3) x i (2 : Nat) (1 : Nat) = if okB (B x i 1) ∧ okB (B x i 2) then counterpaneref1_Utf8.l0 k x ((i + 3 : Nat) : Int) else some false := by
  rw [run_step (k + 2) x i 2 1 hs (by omega) (by omega), run_step (k + 1) x i 2 2 hs (by omega) (by omega), run_end k x i 2 hs (by omega)]
  by_cases c1 : okB (B x i 1)
  · rw [if_neg (by unfold okB at c1; omega)]
    by_cases c2 : okB (B x i 2)
    · rw [if_neg (by unfold okB at c2; omega), if_pos ⟨c1, c2⟩]
    · rw [if_pos (by unfold okB at c2; omega), if_neg (fun h => c2 h.2)]
  · rw [if_pos (by unfold okB at c1; omega), if_neg (fun h => c1 h.1)]
theorem run_3 (k : Nat) (x : ByteArray) (i : Nat) (hs : x.size ≤ 100000) (hn : i + 3 < x.size) :
    counterpaneref1_Utf8.l1 (k + 4) x i (3 : Nat) (1 : Nat) = if okB (B x i 1) ∧ okB (B x i 2) ∧ okB (B x i 3) then counterpaneref1_Utf8.l0 k x ((i + 4 : Nat) : Int) else some false := by
  rw [run_step (k + 3) x i 3 1 hs (by omega) (by omega), run_step (k + 2) x i 3 2 hs (by omega) (by omega), run_step (k + 1) x i 3 3 hs (by omega) (by omega), run_end k x i 3 hs (by omega)]
  by_cases c1 : okB (B x i 1)
  · rw [if_neg (by unfold okB at c1; omega)]
    by_cases c2 : okB (B x i 2)
    · rw [if_neg (by unfold okB at c2; omega)]
      by_cases c3 : okB (B x i 3)
      · rw [if_neg (by unfold okB at c3; omega), if_pos ⟨c1, c2, c3⟩]
      · rw [if_pos (by unfold okB at c3; omega), if_neg (fun h => c3 h.2.2)]
    · rw [if_pos (by unfold okB at c2; omega), if_neg (fun h => c2 h.2.1)]
  · rw [if_pos (by unfold okB at c1; omega), if_neg (fun h => c1 h.1)]
/-- what ValidString reads at a lead byte, by its class -/
theorem lead_eq (l : List UInt8) (b0 sz lo hi : Nat) (hne : l ≠ []) (h0 : (l.getD 0 0).toNat = b0) (h128 : 128 ≤ b0) (e1 : firstT b0 % 8 = sz) (e2 : accLo (firstT b0 / 16) = lo) (e3 : accHi (firstT b0 / 16) = hi) :
    validD l = match checkN l.length (l.getD 1 0).toNat (l.getD 2 0).toNat (l.getD 3 0).toNat sz lo hi with
      | none => false
      | some k => validD (l.drop k) := by
  have h := validD_lead l hne (by omega)
  rw [h0, e1, e2, e3] at h
  exact h
def lo_ (b0 : Nat) : Nat := if b0 = 224 then 160 else if b0 = 240 then 144 else 128
def hi_ (b0 : Nat) : Nat := if b0 = 237 then 159 else if b0 = 244 then 143 else 191
def sz_ (b0 : Nat) : Nat := if b0 < 194 then 1 else if b0 < 224 then 2 else if b0 < 240 then 3 else if b0 < 245 then 4 else 1
set_option maxRecDepth 100000 in
theorem tabs : ∀ b : Fin 256, 128 ≤ b.val → firstT b.val % 8 = sz_ b.val ∧ (194 ≤ b.val → b.val < 245 → accLo (firstT b.val / 16) = lo_ b.val ∧ accHi (firstT b.val / 16) = hi_ b.val) := by decide +kernel
theorem lead_at (x : ByteArray) (i : Nat) (hi : i < x.size) (h128 : 128 ≤ B x i 0) :
    validD ((by_ x).drop i) = if sz_ (B x i 0) = 1 then false else if x.size < i + sz_ (B x i 0) then false else if B x i 1 < lo_ (B x i 0) ∨ hi_ (B x i 0) < B x i 1 ∨ (3 ≤ sz_ (B x i 0) ∧ ¬ okB (B x i 2)) ∨ (4 ≤ sz_ (B x i 0) ∧ ¬ okB (B x i 3)) then false else validD ((by_ x).drop (i + sz_ (B x i 0))) := by
  have hl := by_len x
  have hlen : ((by_ x).drop i).length = x.size - i := by rw [List.length_drop, hl]
  have hne : (by_ x).drop i ≠ [] := by intro h; rw [h] at hlen; simp at hlen; omega
  obtain ⟨t1, t2⟩ := tabs ⟨B x i 0, B_lt x i 0⟩ h128
  simp only at t1 t2
  obtain ⟨b0, hb0⟩ : ∃ b, B x i 0 = b := ⟨_, rfl⟩
  rw [hb0] at t1 t2 h128 ⊢
  have hb : b0 < 256 := by rw [← hb0]; exact B_lt x i 0
  have key := fun lo hi e2 e3 => lead_eq ((by_ x).drop i) b0 (sz_ b0) lo hi hne hb0 h128 t1 e2 e3
  have d1 : (((by_ x).drop i).getD 1 0).toNat = B x i 1 := rfl
  have d2 : (((by_ x).drop i).getD 2 0).toNat = B x i 2 := rfl
  have d3 : (((by_ x).drop i).getD 3 0).toNat = B x i 3 := rfl
  by_cases c : sz_ b0 = 1
  · rw [if_pos c, key _ _ rfl rfl, c]
    simp [checkN]
  · have hr : 194 ≤ b0 ∧ b0 < 245 := by unfold sz_ at c; revert c; repeat' split
                                        all_goals omega
    obtain ⟨t3, t4⟩ := t2 hr.1 hr.2
    rw [if_neg c, key _ _ t3 t4, d1, d2, d3, hlen]
    have hz : sz_ b0 = 2 ∨ sz_ b0 = 3 ∨ sz_ b0 = 4 := by unfold sz_ at c ⊢; revert c; repeat' split
                                                         all_goals omega
    unfold okB
    have hd : ∀ m, ((by_ x).drop i).drop m = (by_ x).drop (i + m) := fun m => by rw [List.drop_drop]
    generalize B x i 1 = b1
    generalize B x i 2 = b2
    generalize B x i 3 = b3
    generalize lo_ b0 = lo
    generalize hi_ b0 = hi'
    rcases hz with e | e | e
    · rw [e]
      unfold checkN
      rw [if_pos rfl]
      by_cases g : x.size - i < 2 ∨ b1 < lo ∨ hi' < b1
      · rw [if_pos g]
        dsimp only
        split <;> first | rfl | (split <;> first | rfl | omega)
      · rw [if_neg g, if_neg (by omega), if_neg (by omega)]
        exact congrArg validD (hd 2)
    · rw [e]
      unfold checkN
      rw [if_neg (by decide), if_pos rfl]
      by_cases g : x.size - i < 3 ∨ b1 < lo ∨ hi' < b1 ∨ b2 < 128 ∨ 191 < b2
      · rw [if_pos g]
        dsimp only
        split <;> first | rfl | (split <;> first | rfl | omega)
      · rw [if_neg g, if_neg (by omega), if_neg (by omega)]
        exact congrArg validD (hd 3)
    · rw [e]
      unfold checkN
      rw [if_neg (by decide), if_neg (by decide), if_pos rfl]
      by_cases g : x.size - i < 4 ∨ b1 < lo ∨ hi' < b1 ∨ b2 < 128 ∨ 191 < b2 ∨ b3 < 128 ∨ 191 < b3
      · rw [if_pos g]
        dsimp only
        split <;> first | rfl | (split <;> first | rfl | omega)
      · rw [if_neg g, if_neg (by omega), if_neg (by omega)]
        exact congrArg validD (hd 4)
def cond3 (c b1 : Nat) : Prop := (c = 224 ∧ b1 < 160) ∨ (c = 237 ∧ 159 < b1) ∨ (c = 240 ∧ b1 < 144) ∨ (c = 244 ∧ 143 < b1)
instance (c b1 : Nat) : Decidable (cond3 c b1) := inferInstanceAs (Decidable (_ ∨ _))
theorem cond_iff (c b1 : Nat) : (cond3 c b1 ∨ ¬ okB b1) ↔ (b1 < lo_ c ∨ hi_ c < b1) := by
  unfold cond3 okB lo_ hi_
  split <;> split <;> (try split) <;> (try split) <;> omega
theorem j3_eq' (k : Nat) (x : ByteArray) (i c n : Nat) (hs : x.size ≤ 100000) (hn : n ≤ 3) (h1 : 1 ≤ n) (hi : i < x.size) :
    counterpaneref1_Utf8.j3 (k + 2) x i c n = if x.size ≤ i + n then some false else if cond3 c (B x i 1) then some false else counterpaneref1_Utf8.l1 k x i n (1 : Nat) := j3_eq k x i c n hs hn h1 hi
theorem utf8_l : ∀ (n : Nat) (x : ByteArray) (i k : Nat), x.size - i ≤ n → i ≤ x.size → x.size ≤ 100000 → 10 * n + 10 ≤ k → counterpaneref1_Utf8.l0 k x (i : Int) = some (validD ((by_ x).drop i)) := by
  intro n
  induction n with
  | zero =>
    intro x i k h1 h2 hs hk
    obtain ⟨k, rfl⟩ : ∃ m, k = m + 1 := ⟨k - 1, by omega⟩
    have hl := by_len x
    rw [counterpaneref1_Utf8.l0, if_neg (by omega), List.drop_eq_nil_of_le (by omega)]
    rfl
  | succ n ih =>
    intro x i k h1 h2 hs hk
    have hl := by_len x
    by_cases hi : i < x.size
    · obtain ⟨k, rfl⟩ : ∃ m, k = m + 9 := ⟨k - 9, by omega⟩
      have hb0 := bt_B0 x i hi
      have hb := B_lt x i 0
      rw [counterpaneref1_Utf8.l0, if_pos (by omega), if_pos (by omega), hb0]
      by_cases c0 : B x i 0 < 128
      · rw [if_pos (by omega)]
        have e1 : wrap64 ((i : Int) + 1) = ((i + 1 : Nat) : Int) := by rw [wr _ (by omega) (by omega)]; omega
        rw [e1, ih x (i + 1) (k + 8) (by omega) (by omega) hs (by omega)]
        have hd : (by_ x).drop i = (by_ x)[i]'(by omega) :: (by_ x).drop (i + 1) := List.drop_eq_getElem_cons (by omega)
        have hb' : ((by_ x)[i]'(by omega)).toNat < 128 := by
          have e : B x i 0 = ((by_ x)[i]'(by omega)).toNat := by unfold B; rw [hd]; rfl
          omega
        rw [hd, validD_cons _ _ hb']
      · rw [if_neg (by omega), lead_at x i hi (by omega)]
        obtain ⟨c, hc⟩ : ∃ c, B x i 0 = c := ⟨_, rfl⟩
        rw [hc] at c0 hb ⊢
        have hci := cond_iff c (B x i 1)
        by_cases d1 : c < 194
        · have ez : sz_ c = 1 := by unfold sz_; rw [if_pos d1]
          rw [if_pos ez, if_neg (by omega), counterpaneref1_Utf8.j1, if_neg (by decide), if_neg (by omega), counterpaneref1_Utf8.j2, if_neg (by decide), if_neg (by omega)]
        · rw [if_pos (by omega)]
          by_cases d2 : c < 224
          · have ez : sz_ c = 2 := by unfold sz_; rw [if_neg d1, if_pos d2]
            have e2 : decide ((c : Int) ≤ 223) = true := decide_eq_true (by omega)
            rw [ez, if_neg (by decide), counterpaneref1_Utf8.j1, e2, if_pos rfl, show k + 7 = (k + 5) + 2 from rfl, show (1 : Int) = ((1 : Nat) : Int) from rfl, j3_eq' (k + 5) x i c 1 hs (by decide) (by decide) hi]
            by_cases g : x.size ≤ i + 1
            · rw [if_pos g, if_pos (by omega)]
            · rw [if_neg g, if_neg (show ¬ x.size < i + 2 by omega), show k + 5 = (k + 3) + 2 from rfl, run_1 (k + 3) x i hs (by omega)]
              by_cases q : B x i 1 < lo_ c ∨ hi_ c < B x i 1
              · rw [if_pos (show B x i 1 < lo_ c ∨ hi_ c < B x i 1 ∨ _ by rcases q with q | q; exact .inl q; exact .inr (.inl q))]
                rcases hci.2 q with q | q
                · rw [if_pos q]
                · rw [if_neg q]; split <;> rfl
              · have q2 : ¬ (cond3 c (B x i 1) ∨ ¬ okB (B x i 1)) := fun h => q (hci.1 h)
                have q3 : ¬ cond3 c (B x i 1) := fun h => q2 (.inl h)
                have q4 : okB (B x i 1) := Decidable.byContradiction fun h => q2 (.inr h)
                rw [if_neg q3, if_pos q4, if_neg (by rintro (h | h | h | h); exact q (.inl h); exact q (.inr h); exact absurd h.1 (by decide); exact absurd h.1 (by decide)), ih x (i + 2) (k + 3) (by omega) (by omega) hs (by omega)]
          · have e2 : decide ((c : Int) ≤ 223) = false := decide_eq_false (by omega)
            rw [counterpaneref1_Utf8.j1, e2, if_neg (by decide), if_pos (by omega)]
            by_cases d3 : c < 240
            · have ez : sz_ c = 3 := by unfold sz_; rw [if_neg d1, if_neg d2, if_pos d3]
              have e3 : decide ((c : Int) ≤ 239) = true := decide_eq_true (by omega)
              rw [ez, if_neg (by decide), counterpaneref1_Utf8.j2, e3, if_pos rfl, show k + 6 = (k + 4) + 2 from rfl, show (2 : Int) = ((2 : Nat) : Int) from rfl, j3_eq' (k + 4) x i c 2 hs (by decide) (by decide) hi]
              by_cases g : x.size ≤ i + 2
              · rw [if_pos g, if_pos (by omega)]
              · rw [if_neg g, if_neg (show ¬ x.size < i + 3 by omega), show k + 4 = (k + 1) + 3 from rfl, run_2 (k + 1) x i hs (by omega)]
                by_cases q : B x i 1 < lo_ c ∨ hi_ c < B x i 1
                · rw [if_pos (show B x i 1 < lo_ c ∨ hi_ c < B x i 1 ∨ _ by rcases q with q | q; exact .inl q; exact .inr (.inl q))]
                  by_cases q5 : cond3 c (B x i 1)
                  · rw [if_pos q5]
                  · rw [if_neg q5, if_neg (fun h => (hci.2 q).elim q5 (fun h2 => h2 h.1))]
                · have q2 : ¬ (cond3 c (B x i 1) ∨ ¬ okB (B x i 1)) := fun h => q (hci.1 h)
                  have q3 : ¬ cond3 c (B x i 1) := fun h => q2 (.inl h)
                  have q4 : okB (B x i 1) := Decidable.byContradiction fun h => q2 (.inr h)
                  rw [if_neg q3]
                  by_cases p2 : okB (B x i 2)
                  · rw [if_pos ⟨q4, p2⟩, if_neg (by rintro (h | h | h | h); exact q (.inl h); exact q (.inr h); exact h.2 p2; exact absurd h.1 (by decide)), ih x (i + 3) (k + 1) (by omega) (by omega) hs (by omega)]
                  · rw [if_neg (fun h => p2 h.2), if_pos (.inr (.inr (.inl ⟨by decide, p2⟩)))]
            · have e3 : decide ((c : Int) ≤ 239) = false := decide_eq_false (by omega)
              rw [counterpaneref1_Utf8.j2, e3, if_neg (by decide), if_pos (by omega)]
              by_cases d4 : c < 245
              · have ez : sz_ c = 4 := by unfold sz_; rw [if_neg d1, if_neg d2, if_neg d3, if_pos d4]
                rw [if_pos (show (c : Int) ≤ 244 by omega), ez, if_neg (show ¬ (4 : Nat) = 1 by decide), show k + 6 = (k + 4) + 2 from rfl, show (3 : Int) = ((3 : Nat) : Int) from rfl, j3_eq' (k + 4) x i c 3 hs (by decide) (by decide) hi]
                by_cases g : x.size ≤ i + 3
                · rw [if_pos g, if_pos (by omega)]
                · rw [if_neg g, if_neg (show ¬ x.size < i + 4 by omega), run_3 k x i hs (by omega)]
                  by_cases q : B x i 1 < lo_ c ∨ hi_ c < B x i 1
                  · rw [if_pos (show B x i 1 < lo_ c ∨ hi_ c < B x i 1 ∨ _ by rcases q with q | q; exact .inl q; exact .inr (.inl q))]
                    by_cases q5 : cond3 c (B x i 1)
                    · rw [if_pos q5]
                    · rw [if_neg q5, if_neg (fun h => (hci.2 q).elim q5 (fun h2 => h2 h.1))]
                  · have q2 : ¬ (cond3 c (B x i 1) ∨ ¬ okB (B x i 1)) := fun h => q (hci.1 h)
                    have q3 : ¬ cond3 c (B x i 1) := fun h => q2 (.inl h)
                    have q4 : okB (B x i 1) := Decidable.byContradiction fun h => q2 (.inr h)
                    rw [if_neg q3]
                    by_cases p2 : okB (B x i 2)
                    · by_cases p3 : okB (B x i 3)
                      · rw [if_pos ⟨q4, p2, p3⟩, if_neg (by rintro (h | h | h | h); exact q (.inl h); exact q (.inr h); exact h.2 p2; exact h.2 p3), ih x (i + 4) k (by omega) (by omega) hs (by omega)]
                      · rw [if_neg (fun h => p3 h.2.2), if_pos (.inr (.inr (.inr ⟨by decide, p3⟩)))]
                    · rw [if_neg (fun h => p2 h.2.1), if_pos (.inr (.inr (.inl ⟨by decide, p2⟩)))]
              · have ez : sz_ c = 1 := by unfold sz_; rw [if_neg d1, if_neg d2, if_neg d3, if_neg d4]
                rw [if_neg (show ¬ (c : Int) ≤ 244 by omega), if_pos ez]
    · obtain ⟨k, rfl⟩ : ∃ m, k = m + 1 := ⟨k - 1, by omega⟩
      rw [counterpaneref1_Utf8.l0, if_neg (by omega), List.drop_eq_nil_of_le (by omega)]
      rfl
theorem utf8_f (x : ByteArray) (hs : x.size ≤ 100000) (k : Nat) (hk : 10 * x.size + 10 ≤ k) : counterpaneref1_Utf8.f k x = some (validD (by_ x)) := by
  unfold counterpaneref1_Utf8.f
  have := utf8_l x.size x 0 k (by omega) (by omega) hs hk
  simpa using this
end Go.Proofs.YtfnbflhoaemmeaaGreatDoor.EVal
