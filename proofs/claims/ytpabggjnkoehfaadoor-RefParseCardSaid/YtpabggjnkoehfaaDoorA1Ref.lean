/- Reading references: the reference's printed function, as a function of bytes. Conditions: enough rounds; texts below 1,000 bytes. -/
import Derived.Test.YtpabggjnkoehfaaDoorA1Par
import Derived.Test.YtpabggjnkoehfaaDoorERef5
namespace Go.Proofs.YtpabggjnkoehfaaDoor.ERef
open Go.RowKit Go.Lib Go.Proofs.YtpabggjnkoehfaaDoorW.PrintWords Go.Proofs.YtpabggjnkoehfaaDoorW.PrintLast Go.Proofs.YtpabggjnkoehfaaDoor.Ext Go.Proofs.YtpabggjnkoehfaaDoor.A1
theorem head_mark (y : ByteArray) (hy : 0 < y.size) : (bt y 0 = 36 → dropHead 36 (by_ y) = some (by_ (y.extract 1 y.size))) ∧ (¬ bt y 0 = 36 → dropHead 36 (by_ y) = none) := by
  have hl := by_len y
  have hd := by_drop y 1
  have hb := bt_by y 0 (by omega)
  rw [hd]
  cases e : by_ y with
  | nil => rw [e] at hl; simp at hl; omega
  | cons a r =>
    have ha : (by_ y)[0]'(by omega) = a := by simp [e]
    rw [ha] at hb
    have hb' : bt y 0 = (a.toNat : Int) := hb
    constructor
    · intro h
      exact if_pos (by apply UInt8.toNat_inj.1; show _ = 36; omega)
    · intro h
      exact if_neg (fun q => h (by rw [hb', q]; rfl))
theorem ref_j5 (k : Nat) (hk : 21 ≤ k) (x : ByteArray) (j : Nat) (hj : j ≤ x.size) (sh : ByteArray) (r c : Int) (ca : Bool) :
    counterpaneref5_Ref.j5 (k + 1) x j sh r c false ca = some (endS sh ca (by_ x) j) := by
  obtain ⟨k, rfl⟩ : ∃ m, k = m + 1 := ⟨k - 1, by omega⟩
  have hl := by_len x
  rw [counterpaneref5_Ref.j5, if_pos (by omega), if_pos (by omega), Int.toNat_natCast, refcol_f _ (by omega), Option.bind_some, by_take]
  have hy := by_drop x j
  generalize x.extract j x.size = y at *
  have hly := by_len y
  have fin : ∀ (m : List UInt8) (ra : Bool), markS ((by_ x).drop j) = (m, ra) → (if (colS ((by_ x).take j)).2 = true then if numS m 2199023255552 < 1 then some ((⟨#[]⟩ : ByteArray), (0 : Int), (0 : Int), false, false, false) else some (sh, wrap64 (numS m 2199023255552 - 1), (colS ((by_ x).take j)).1, ra, ca, true) else some ((⟨#[]⟩ : ByteArray), (0 : Int), (0 : Int), false, false, false)) = some (endS sh ca (by_ x) j) := by
    intro m ra hm
    have hn := numS_le m 2199023255552
    unfold endS badS
    rw [hm]
    dsimp only
    by_cases h3 : (colS ((by_ x).take j)).2 = true
    · rw [if_pos h3]
      by_cases h4 : numS m 2199023255552 < 1
      · rw [if_pos h4, if_neg (by omega)]
      · rw [if_neg h4, if_pos ⟨h3, by omega⟩, wr _ (by omega) (by omega)]
    · rw [if_neg h3, if_neg (fun q => h3 q.1)]
  have hF : dropHead 36 (by_ y) = none → counterpaneref5_Ref.j6 (k + 1) y (colS ((by_ x).take j)).1 (colS ((by_ x).take j)).2 false sh r c false ca = some (endS sh ca (by_ x) j) := by
    intro h
    rw [counterpaneref5_Ref.j6, if_neg (by simp), num_f k (by omega), Option.bind_some]
    refine fin (by_ y) false ?_
    rw [← hy]
    unfold markS
    rw [h]
  by_cases h0 : (y.size : Int) > 0
  · rw [if_pos h0, if_pos h0, beqd]
    have hm := head_mark y (by omega)
    by_cases h1 : bt y 0 = 36
    · rw [decide_eq_true h1, counterpaneref5_Ref.j6, if_pos rfl, if_pos (by omega), num_f k (by omega), Option.bind_some]
      refine fin _ true ?_
      rw [← hy]
      unfold markS
      rw [hm.1 h1]
    · rw [decide_eq_false h1, hF (hm.2 h1)]
  · rw [if_neg h0]
    refine hF ?_
    have : by_ y = [] := List.eq_nil_of_length_eq_zero (by omega)
    rw [this]; rfl
theorem ref_l1 (x : ByteArray) (hx : x.size ≤ 1000) (sh : ByteArray) (r c : Int) (ca : Bool) (d : Nat) : ∀ (k j : Nat), j + d = x.size → d + 24 ≤ k →
    counterpaneref5_Ref.l1 k x j sh r c false ca = some (endS sh ca (by_ x) (j + runAZ ((by_ x).drop j))) := by
  have hl := by_len x
  induction d with
  | zero =>
    intro k j hj hk
    obtain ⟨k, rfl⟩ : ∃ m, k = m + 2 := ⟨k - 2, by omega⟩
    rw [counterpaneref5_Ref.l1, if_neg (by omega), List.drop_eq_nil_of_le (by omega), ref_j5 k (by omega) x j (by omega)]
    rfl
  | succ d ih =>
    intro k j hj hk
    obtain ⟨k, rfl⟩ : ∃ m, k = m + 2 := ⟨k - 2, by omega⟩
    have hlt : j < (by_ x).length := by omega
    rw [counterpaneref5_Ref.l1, if_pos (by omega), if_pos (by omega), bt_by x j hlt, ref_j5 k (by omega) x j (by omega), wr _ (by omega) (by omega)]
    have e := ih (k + 1) (j + 1) (by omega) (by omega)
    rw [show ((j + 1 : Nat) : Int) = (j : Int) + 1 from rfl] at e
    rw [e]
    have hr : runAZ ((by_ x).drop j) = if 65 ≤ (by_ x)[j].toNat ∧ (by_ x)[j].toNat ≤ 90 then runAZ ((by_ x).drop (j + 1)) + 1 else 0 := by
      rw [List.drop_eq_getElem_cons hlt]; rfl
    rw [hr]
    generalize (by_ x)[j] = b
    by_cases h1 : (b.toNat : Int) ≥ 65
    · rw [if_pos h1]
      by_cases h2 : (b.toNat : Int) ≤ 90
      · rw [if_pos h2, if_pos (by omega)]
        congr 2
        omega
      · rw [if_neg h2, if_neg (by omega)]; rfl
    · rw [if_neg h1, if_neg (by omega)]; rfl
theorem ref_j1 (k : Nat) (x : ByteArray) (hx : x.size ≤ 1000) (hk : x.size + 27 ≤ k) (sh : ByteArray) (r c : Int) :
    counterpaneref5_Ref.j1 k x sh r c false false = some (tailS sh (by_ x)) := by
  obtain ⟨k, rfl⟩ : ∃ m, k = m + 3 := ⟨k - 3, by omega⟩
  have hl := by_len x
  have fin : ∀ (y : ByteArray) (ca : Bool), markS (by_ x) = (by_ y, ca) → counterpaneref5_Ref.j3 (k + 1) y sh r c false ca = some (tailS sh (by_ x)) := by
    intro y ca h
    have hs := markS_len (by_ x)
    rw [h] at hs
    have hy := by_len y
    have hs' : (by_ y).length ≤ (by_ x).length := hs
    have e := ref_l1 y (by omega) sh r c ca y.size k 0 (by omega) (by omega)
    rw [List.drop_zero, Nat.zero_add] at e
    rw [counterpaneref5_Ref.j3]
    unfold tailS
    rw [h]
    exact e
  have hF : dropHead 36 (by_ x) = none → counterpaneref5_Ref.j2 (k + 2) x false sh r c false false = some (tailS sh (by_ x)) := by
    intro h
    rw [counterpaneref5_Ref.j2, if_neg (by simp)]
    refine fin x false ?_
    unfold markS
    rw [h]
  rw [counterpaneref5_Ref.j1]
  by_cases h0 : (x.size : Int) > 0
  · rw [if_pos h0, if_pos h0, beqd]
    have hm := head_mark x (by omega)
    by_cases h1 : bt x 0 = 36
    · rw [decide_eq_true h1, counterpaneref5_Ref.j2, if_pos rfl, if_pos (by omega)]
      refine fin _ true ?_
      unfold markS
      rw [hm.1 h1]
    · rw [decide_eq_false h1, hF (hm.2 h1)]
  · rw [if_neg h0]
    refine hF ?_
    have : by_ x = [] := List.eq_nil_of_length_eq_zero (by omega)
    rw [this]; rfl
theorem ref_l0 (x : ByteArray) (hx : x.size ≤ 1000) (d : Nat) : ∀ (k j : Nat), j + d = x.size → d + 2 * x.size + 30 ≤ k →
    counterpaneref5_Ref.l0 k x j ⟨#[]⟩ 0 0 false false = some (match cutAt 33 ((by_ x).drop j) with
      | none => tailS ⟨#[]⟩ (by_ x)
      | some p => if 0 ≤ ownerS ((by_ x).take (j + p.1.length)) then tailS ⟨((by_ x).take (j + p.1.length)).toArray⟩ p.2 else badS) := by
  have hl := by_len x
  induction d with
  | zero =>
    intro k j hj hk
    obtain ⟨k, rfl⟩ : ∃ m, k = m + 1 := ⟨k - 1, by omega⟩
    rw [counterpaneref5_Ref.l0, if_neg (by omega), List.drop_eq_nil_of_le (by omega), ref_j1 k x hx (by omega)]
    rfl
  | succ d ih =>
    intro k j hj hk
    obtain ⟨k, rfl⟩ : ∃ m, k = m + 1 := ⟨k - 1, by omega⟩
    have hlt : j < (by_ x).length := by omega
    have e := ih k (j + 1) (by omega) (by omega)
    rw [show ((j + 1 : Nat) : Int) = (j : Int) + 1 from rfl] at e
    rw [counterpaneref5_Ref.l0, if_pos (by omega), if_pos (by omega), bt_by x j hlt, List.drop_eq_getElem_cons hlt, wr _ (by omega) (by omega)]
    have hc : cutAt 33 ((by_ x)[j] :: (by_ x).drop (j + 1)) = if (by_ x)[j] = 33 then some ([], (by_ x).drop (j + 1)) else match cutAt 33 ((by_ x).drop (j + 1)) with | none => none | some p => some ((by_ x)[j] :: p.1, p.2) := rfl
    rw [hc]
    have hb : ((by_ x)[j].toNat : Int) = 33 ↔ (by_ x)[j] = 33 := by
      constructor
      · intro q; apply UInt8.toNat_inj.1; show _ = 33; omega
      · intro q; rw [q]; rfl
    by_cases h1 : (by_ x)[j] = 33
    · rw [if_pos (hb.2 h1), if_pos h1, if_pos (by omega), if_pos (by omega), if_pos (by omega), Int.toNat_natCast, show ((j : Int) + 1).toNat = j + 1 by omega]
      dsimp only
      have ht := by_take x j
      have hs : (x.extract 0 j).size ≤ x.size := by rw [← by_len, ht, List.length_take]; omega
      have hs2 : (x.extract (j + 1) x.size).size ≤ x.size := by rw [← by_len, by_drop, List.length_drop]; omega
      rw [refid_f k (x.extract 0 j) (by omega) (by omega), Option.bind_some, ht]
      show _ = some (if 0 ≤ ownerS ((by_ x).take j) then tailS ⟨((by_ x).take j).toArray⟩ ((by_ x).drop (j + 1)) else badS)
      by_cases q : 0 ≤ ownerS ((by_ x).take j)
      · rw [if_pos (decide_eq_true q), if_pos q, ref_j1 k _ (by omega) (by omega), by_drop]
        have : x.extract 0 j = ⟨((by_ x).take j).toArray⟩ := by_inj ht
        rw [this]
      · rw [if_neg (by simpa using q), if_neg q]; rfl
    · rw [if_neg (fun q => h1 (hb.1 q)), if_neg h1, e]
      cases cutAt 33 ((by_ x).drop (j + 1)) with
      | none => rfl
      | some p =>
        dsimp only
        rw [List.length_cons, show j + 1 + p.1.length = j + (p.1.length + 1) by omega]
theorem ref_f (k : Nat) (x : ByteArray) (hx : x.size ≤ 1000) (hk : 3 * x.size + 30 ≤ k) : counterpaneref5_Ref.f k x = some (refS (by_ x)) := by
  unfold counterpaneref5_Ref.f refS
  have e := ref_l0 x hx x.size k 0 (by omega) (by omega)
  rw [List.drop_zero] at e
  refine Eq.trans e ?_
  cases e1 : cutAt 33 (by_ x) with
  | none => rfl
  | some p =>
    dsimp only
    have hp := cutAt_len 33 (by_ x) p e1
    have : List.take (0 + p.1.length) (by_ x) = p.1 := by rw [hp, Nat.zero_add]; simp
    rw [this]
end Go.Proofs.YtpabggjnkoehfaaDoor.ERef
