/- Reading references: the program's printed function, as a function of bytes; the reference's ids. Conditions: enough rounds; texts below 1,000 bytes. -/
import Derived.Test.YtpabggjnkoehfaaDoorA1Own
import Derived.Test.YtpabggjnkoehfaaDoorERef2
namespace Go.Proofs.YtpabggjnkoehfaaDoor.ERef
open Go.RowKit Go.Lib Go.Proofs.YtpabggjnkoehfaaDoorW.PrintWords Go.Proofs.YtpabggjnkoehfaaDoorW.PrintLast Go.Proofs.YtpabggjnkoehfaaDoor.Ext Go.Proofs.YtpabggjnkoehfaaDoor.A1
/-- how many letters stand ahead -/
def runAZ : List UInt8 → Nat
  | [] => 0
  | c :: r => if 65 ≤ c.toNat ∧ c.toNat ≤ 90 then runAZ r + 1 else 0
/-- without a $ ahead; was there one -/
def markS (l : List UInt8) : List UInt8 × Bool :=
  match dropHead 36 l with
  | none => (l, false)
  | some r => (r, true)
/-- what no reference reads as -/
def badS : ByteArray × Int × Int × Bool × Bool × Bool := (⟨#[]⟩, 0, 0, false, false, false)
/-- behind so many letters -/
def endS (sh : ByteArray) (ca : Bool) (l : List UInt8) (k : Nat) : ByteArray × Int × Int × Bool × Bool × Bool :=
  if (colS (l.take k)).2 = true ∧ 1 ≤ numS (markS (l.drop k)).1 2199023255552 then (sh, numS (markS (l.drop k)).1 2199023255552 - 1, (colS (l.take k)).1, (markS (l.drop k)).2, ca, true) else badS
/-- behind a sheet -/
def tailS (sh : ByteArray) (l : List UInt8) : ByteArray × Int × Int × Bool × Bool × Bool :=
  endS sh (markS l).2 (markS l).1 (runAZ (markS l).1)
/-- a text, read as a reference -/
def refS (l : List UInt8) : ByteArray × Int × Int × Bool × Bool × Bool :=
  match cutAt 33 l with
  | none => tailS ⟨#[]⟩ l
  | some p => if 0 ≤ ownerS p.1 then tailS ⟨p.1.toArray⟩ p.2 else badS
theorem numS_le (l : List UInt8) (m : Int) : -1 ≤ numS l m ∧ (numS l m ≤ m ∨ numS l m = -1) := by
  unfold numS
  by_cases h : canon l ∧ l.length ≤ 15 ∧ (dval 0 l : Int) ≤ m
  · rw [if_pos h]; have := h.2.2; omega
  · rw [if_neg h]; omega
theorem markS_len (l : List UInt8) : (markS l).1.length ≤ l.length := by
  unfold markS
  cases e : dropHead 36 l with
  | none => exact Nat.le_refl _
  | some r => have := congrArg List.length (dropHead_len _ _ _ e); simp at this; show r.length ≤ _; omega
theorem mark_f (x : ByteArray) : ∃ y, a1_mark.f x = some (y, (markS (by_ x)).2) ∧ by_ y = (markS (by_ x)).1 := by
  unfold a1_mark.f markS
  rw [cutPrefix_f x 36, Option.bind_some]
  cases dropHead 36 (by_ x) with
  | none => exact ⟨x, rfl, rfl⟩
  | some r => exact ⟨⟨r.toArray⟩, rfl, rfl⟩
theorem parse_j3 (k : Nat) (hk : 12 ≤ k) (x : ByteArray) (hx : x.size ≤ 1000) (j : Nat) (hj : j ≤ x.size) (sh : ByteArray) (r c : Int) (ra ca : Bool) :
    a1_Parse.j3 (k + 1) x j sh r c ra ca = some (endS sh ca (by_ x) j) := by
  have hl := by_len x
  rw [a1_Parse.j3, if_pos (by omega), if_pos (by omega), Int.toNat_natCast, col_f k hk, Option.bind_some, by_take]
  obtain ⟨y, h1, h2⟩ := mark_f (x.extract j x.size)
  rw [h1, Option.bind_some]
  rw [by_drop] at h2
  rw [by_drop]
  dsimp only
  have hy : y.size ≤ 1000 := by
    have := markS_len ((by_ x).drop j)
    rw [← by_len, h2]
    rw [List.length_drop] at this
    omega
  rw [number_f y _ hy (by omega), Option.bind_some, h2]
  have hn := numS_le (markS ((by_ x).drop j)).1 2199023255552
  unfold endS badS
  by_cases h3 : (colS ((by_ x).take j)).2 = true
  · rw [if_pos h3]
    by_cases h4 : numS (markS ((by_ x).drop j)).1 2199023255552 < 1
    · rw [if_pos h4, if_neg (by omega)]
    · rw [if_neg h4, if_pos ⟨h3, by omega⟩, wr _ (by omega) (by omega)]
  · rw [if_neg h3, if_neg (fun q => h3 q.1)]
theorem parse_l0 (x : ByteArray) (hx : x.size ≤ 1000) (sh : ByteArray) (r c : Int) (ra ca : Bool) (d : Nat) : ∀ (k j : Nat), j + d = x.size → d + 14 ≤ k →
    a1_Parse.l0 k x j sh r c ra ca = some (endS sh ca (by_ x) (j + runAZ ((by_ x).drop j))) := by
  have hl := by_len x
  induction d with
  | zero =>
    intro k j hj hk
    obtain ⟨k, rfl⟩ : ∃ m, k = m + 2 := ⟨k - 2, by omega⟩
    rw [a1_Parse.l0, if_neg (by omega), List.drop_eq_nil_of_le (by omega), parse_j3 k (by omega) x hx j (by omega)]
    rfl
  | succ d ih =>
    intro k j hj hk
    obtain ⟨k, rfl⟩ : ∃ m, k = m + 2 := ⟨k - 2, by omega⟩
    have hlt : j < (by_ x).length := by omega
    rw [a1_Parse.l0, if_pos (by omega), if_pos (by omega), bt_by x j hlt, parse_j3 k (by omega) x hx j (by omega), wr _ (by omega) (by omega)]
    have e := ih (k + 1) (j + 1) (by omega) (by omega)
    rw [show ((j + 1 : Nat) : Int) = (j : Int) + 1 from rfl] at e
    rw [e]
    have hr : runAZ ((by_ x).drop j) = if 65 ≤ (by_ x)[j].toNat ∧ (by_ x)[j].toNat ≤ 90 then runAZ ((by_ x).drop (j + 1)) + 1 else 0 := by
      rw [List.drop_eq_getElem_cons hlt]; rfl
    rw [hr]
    generalize (by_ x)[j] = b
    by_cases h1 : (b.toNat : Int) ≥ 65
    · rw [if_pos h1]
      by_cases h2 : (b.toNat : Int) ≤ 90
      · rw [if_pos h2, if_pos (by omega)]
        congr 2
        omega
      · rw [if_neg h2, if_neg (by omega)]; rfl
    · rw [if_neg h1, if_neg (by omega)]; rfl
theorem parse_j1 (k : Nat) (x : ByteArray) (hx : x.size ≤ 1000) (hk : x.size + 15 ≤ k) (sh : ByteArray) (r c : Int) (ra ca : Bool) :
    a1_Parse.j1 k x sh r c ra ca = some (tailS sh (by_ x)) := by
  obtain ⟨k, rfl⟩ : ∃ m, k = m + 1 := ⟨k - 1, by omega⟩
  obtain ⟨y, h1, h2⟩ := mark_f x
  have hs := markS_len (by_ x)
  have hl := by_len x
  have hy := by_len y
  rw [a1_Parse.j1, h1, Option.bind_some]
  dsimp only
  have e := parse_l0 y (by rw [← hy, h2]; omega) sh r c ra (markS (by_ x)).2 y.size k 0 (by omega) (by rw [← hy, h2]; omega)
  rw [List.drop_zero, Nat.zero_add, h2] at e
  exact e
theorem parse_f (k : Nat) (x : ByteArray) (hx : x.size ≤ 1000) (hk : x.size + 17 ≤ k) : a1_Parse.f k x = some (refS (by_ x)) := by
  obtain ⟨k, rfl⟩ : ∃ m, k = m + 1 := ⟨k - 1, by omega⟩
  have hl := by_len x
  unfold a1_Parse.f refS
  rw [cut_f x 33 hx, Option.bind_some]
  cases e : cutAt 33 (by_ x) with
  | none =>
    dsimp only
    rw [if_neg (by simp), a1_Parse.j0, if_neg (by simp), if_neg (by simp), parse_j1 k x hx (by omega)]
  | some p =>
    dsimp only
    have hp := congrArg List.length (cutAt_len 33 (by_ x) p e)
    simp at hp
    have h1 : (⟨p.1.toArray⟩ : ByteArray).size ≤ 1000 := by rw [mk_size]; omega
    rw [if_pos rfl, id_f ⟨p.1.toArray⟩ h1, Option.bind_some, by_mk, a1_Parse.j0]
    by_cases h : ownerS p.1 ≥ 0
    · rw [decide_eq_true h, if_neg (by simp), if_pos rfl, parse_j1 k _ (by rw [mk_size]; omega) (by rw [mk_size]; omega), by_mk, if_pos h]
    · rw [decide_eq_false h, if_pos (by rfl), if_neg h]; rfl
/-! the reference's ids -/
theorem refowner_no (x : ByteArray) (hx : x.size ≤ 1000) (h0 : ¬ bt x 0 = 99) (d : Nat) : ∀ (k j : Nat), 1 ≤ j → j + d = x.size ∨ x.size < j ∧ d = 0 → 2 * d + 2 ≤ k →
    counterpaneref5_Owner.l0 k x j = some (-1) := by
  induction d with
  | zero =>
    intro k j hj h hk
    obtain ⟨k, rfl⟩ : ∃ m, k = m + 1 := ⟨k - 1, by omega⟩
    rw [counterpaneref5_Owner.l0, if_neg (by omega)]
  | succ d ih =>
    intro k j hj h hk
    obtain ⟨k, rfl⟩ : ∃ m, k = m + 2 := ⟨k - 2, by omega⟩
    have e := ih k (j + 1) (by omega) (by omega) (by omega)
    rw [show ((j + 1 : Nat) : Int) = (j : Int) + 1 from rfl] at e
    have J : counterpaneref5_Owner.j1 (k + 1) x j false = some (-1) := by
      rw [counterpaneref5_Owner.j1, if_neg (by simp), wr _ (by omega) (by omega), e]
    rw [counterpaneref5_Owner.l0, if_pos (by omega), if_pos (by omega)]
    by_cases h1 : bt x j = 110
    · rw [if_pos h1, if_pos (by omega), beqd, decide_eq_false h0, J]
    · rw [if_neg h1, J]
theorem refowner_yes (x : ByteArray) (hx : x.size ≤ 1000) (h0 : bt x 0 = 99) (d : Nat) : ∀ (k j : Nat), 1 ≤ j → j + d = x.size → 2 * d + 23 ≤ k →
    counterpaneref5_Owner.l0 k x j = some (match cutAt 110 ((by_ x).drop j) with | none => -1 | some p => if numS p.2 999999 < 0 then -1 else numS (((by_ x).drop 1).take (j + p.1.length - 1)) 15) := by
  have hl := by_len x
  induction d with
  | zero =>
    intro k j hj h hk
    obtain ⟨k, rfl⟩ : ∃ m, k = m + 1 := ⟨k - 1, by omega⟩
    rw [counterpaneref5_Owner.l0, if_neg (by omega), List.drop_eq_nil_of_le (i := j) (by omega)]
    rfl
  | succ d ih =>
    intro k j hj h hk
    obtain ⟨k, rfl⟩ : ∃ m, k = m + 2 := ⟨k - 2, by omega⟩
    have hlt : j < (by_ x).length := by omega
    have e := ih k (j + 1) (by omega) (by omega) (by omega)
    rw [show ((j + 1 : Nat) : Int) = (j : Int) + 1 from rfl] at e
    have J : counterpaneref5_Owner.j1 (k + 1) x j false = counterpaneref5_Owner.l0 k x ((j : Int) + 1) := by
      rw [counterpaneref5_Owner.j1, if_neg (by simp), wr _ (by omega) (by omega)]
    have Y : counterpaneref5_Owner.j1 (k + 1) x j true = some (if numS ((by_ x).drop (j + 1)) 999999 < 0 then -1 else numS (((by_ x).drop 1).take (j - 1)) 15) := by
      rw [counterpaneref5_Owner.j1, if_pos rfl, if_pos (by omega), if_pos (by omega), num_f k (by omega), Option.bind_some, wr _ (by omega) (by omega), if_pos (by omega), if_pos (by omega), num_f k (by omega), Option.bind_some]
      rw [show ((j : Int) + 1).toNat = j + 1 by omega, by_drop, Int.toNat_natCast, by_mid]
      by_cases q : numS ((by_ x).drop (j + 1)) 999999 < 0
      · rw [if_pos q, if_pos q]
      · rw [if_neg q, if_neg q]
    rw [counterpaneref5_Owner.l0, if_pos (by omega), if_pos (by omega), if_pos (show 0 < (x.size : Int) by omega), beqd, decide_eq_true h0, bt_by x j hlt, J, e, Y, List.drop_eq_getElem_cons hlt]
    have hc : cutAt 110 ((by_ x)[j] :: (by_ x).drop (j + 1)) = if (by_ x)[j] = 110 then some ([], (by_ x).drop (j + 1)) else match cutAt 110 ((by_ x).drop (j + 1)) with | none => none | some p => some ((by_ x)[j] :: p.1, p.2) := rfl
    rw [hc]
    have hb : ((by_ x)[j].toNat : Int) = 110 ↔ (by_ x)[j] = 110 := by
      constructor
      · intro q; apply UInt8.toNat_inj.1; show _ = 110; omega
      · intro q; rw [q]; rfl
    by_cases h1 : (by_ x)[j] = 110
    · rw [if_pos (hb.2 h1), if_pos h1]
      dsimp only
      rfl
    · rw [if_neg (fun q => h1 (hb.1 q)), if_neg h1]
      cases cutAt 110 ((by_ x).drop (j + 1)) with
      | none => rfl
      | some p =>
        dsimp only
        rw [List.length_cons, show j + 1 + p.1.length - 1 = j + (p.1.length + 1) - 1 by omega]
theorem refowner_f (k : Nat) (x : ByteArray) (hx : x.size ≤ 1000) (hk : 2 * x.size + 25 ≤ k) : counterpaneref5_Owner.f k x = some (ownerS (by_ x)) := by
  have hl := by_len x
  unfold counterpaneref5_Owner.f
  cases e : by_ x with
  | nil =>
    rw [e] at hl
    have hz : x.size = 0 := hl.symm
    obtain ⟨k, rfl⟩ : ∃ m, k = m + 1 := ⟨k - 1, by omega⟩
    rw [counterpaneref5_Owner.l0, if_neg (by omega)]
    rfl
  | cons a r =>
    have hlt : 0 < (by_ x).length := by rw [e]; simp
    have hb := bt_by x 0 hlt
    have ha : (by_ x)[0] = a := by simp [e]
    rw [ha] at hb
    have hb' : bt x 0 = (a.toNat : Int) := hb
    have hc : cutAt 110 (a :: r) = if a = 110 then some ([], r) else match cutAt 110 r with | none => none | some p => some (a :: p.1, p.2) := rfl
    by_cases h0 : bt x 0 = 99
    · have e1 := refowner_yes x hx h0 (x.size - 1) k 1 (by omega) (by omega) (by omega)
      have hr : (by_ x).drop 1 = r := by rw [e]; rfl
      rw [hr] at e1
      have h99 : a = 99 := by apply UInt8.toNat_inj.1; show _ = 99; omega
      have hn : ¬ a = 110 := by rw [h99]; decide
      refine Eq.trans e1 ?_
      unfold ownerS
      rw [hc, if_neg hn]
      cases e2 : cutAt 110 r with
      | none => rfl
      | some p =>
        dsimp only
        have hd : dropHead 99 (a :: p.1) = some p.1 := if_pos h99
        rw [hd]
        dsimp only
        have hp := cutAt_len 110 r p e2
        have ht : List.take (1 + p.1.length - 1) r = p.1 := by rw [hp, show 1 + p.1.length - 1 = p.1.length by omega]; simp
        rw [ht]
        have q1 := numS_le p.1 15
        have q2 := numS_le p.2 999999
        by_cases h1 : numS p.2 999999 < 0
        · rw [if_pos h1, if_neg (by omega)]
        · rw [if_neg h1]
          by_cases h2 : 0 ≤ numS p.1 15
          · rw [if_pos ⟨h2, by omega⟩]
          · rw [if_neg (fun q => h2 q.1)]
            congr 1
            omega
    · have e1 := refowner_no x hx h0 (x.size - 1) k 1 (by omega) (by omega) (by omega)
      refine Eq.trans e1 ?_
      have h99 : ¬ a = 99 := fun q => h0 (by rw [hb', q]; rfl)
      unfold ownerS
      rw [hc]
      by_cases hn : a = 110
      · rw [if_pos hn]; rfl
      · rw [if_neg hn]
        cases cutAt 110 r with
        | none => rfl
        | some p =>
          dsimp only
          have hd : dropHead 99 (a :: p.1) = none := if_neg h99
          rw [hd]
theorem refid_f (k : Nat) (x : ByteArray) (hx : x.size ≤ 1000) (hk : 2 * x.size + 25 ≤ k) : counterpaneref5_Id.f k x = some (decide (ownerS (by_ x) ≥ 0)) := by
  unfold counterpaneref5_Id.f
  rw [refowner_f k x hx hk, Option.bind_some]
end Go.Proofs.YtpabggjnkoehfaaDoor.ERef
