/- fixnum's printed functions as functions of bytes: reading. Condition: texts below 100,001 bytes. -/
import Derived.Test.YtfnbflhoaemmeaaGreatDoorEFix1
namespace Go.Proofs.YtfnbflhoaemmeaaGreatDoor.EFix
open Go.RowKit Go.Lib Go.Proofs.YtfnbflhoaemmeaaGreatDoorW.PrintWords Go.Proofs.YtfnbflhoaemmeaaGreatDoorW.PrintLast Go.Proofs.YtfnbflhoaemmeaaGreatDoor.Ext Go.Proofs.YtfnbflhoaemmeaaGreatDoor.EFxA
theorem wr (x : Int) (h : -9223372036854775808 ≤ x) (h' : x ≤ 9223372036854775807) : wrap64 x = x := by unfold wrap64; omega
theorem beqd (a b : Int) : (a == b) = decide (a = b) := by by_cases h : a = b <;> simp [h]
/-- a text's bytes -/
def by_ (s : ByteArray) : List UInt8 := s.data.toList
theorem by_len (s : ByteArray) : (by_ s).length = s.size := (Lib.size_eq s).symm
theorem bt_by (s : ByteArray) (j : Nat) (h : j < (by_ s).length) : bt s (j : Int) = (((by_ s)[j]).toNat : Int) := by
  have h' : j < s.size := by rw [← by_len]; exact h
  unfold bt
  rw [dif_pos (by simpa using h')]
  rfl
theorem by_take (s : ByteArray) (j : Nat) : by_ (s.extract 0 j) = (by_ s).take j := by
  unfold by_; rw [Lib.extract_data]; simp
theorem by_drop (s : ByteArray) (j : Nat) : by_ (s.extract j s.size) = (by_ s).drop j := Lib.extract_to_end s j
theorem by_mid (s : ByteArray) (i j : Nat) : by_ (s.extract i j) = ((by_ s).drop i).take (j - i) := Lib.extract_data s i j
theorem by_mk (l : List UInt8) : by_ ⟨l.toArray⟩ = l := rfl
theorem by_inj {s t : ByteArray} (h : by_ s = by_ t) : s = t := by
  apply ByteArray.ext
  unfold by_ at h
  exact Array.toList_inj.1 h
def cutAt (c : UInt8) : List UInt8 → Option (List UInt8 × List UInt8)
  | [] => none
  | x :: r => if x = c then some ([], r) else match cutAt c r with | none => none | some p => some (x :: p.1, p.2)
def dropHead (c : UInt8) : List UInt8 → Option (List UInt8)
  | [] => none
  | x :: r => if x = c then some r else none
theorem dropHead_len (c : UInt8) (l r : List UInt8) (h : dropHead c l = some r) : l = c :: r := by
  cases l with
  | nil => cases h
  | cons a s =>
    by_cases e : a = c
    · have : dropHead c (a :: s) = some s := if_pos e
      rw [this] at h
      injection h with h
      rw [e, h]
    · have : dropHead c (a :: s) = none := if_neg e
      rw [this] at h
      cases h
theorem index_cut (c : UInt8) (l : List UInt8) : (cutAt c l = none ∧ Lib.index l [c] = -1) ∨ ∃ p, cutAt c l = some p ∧ Lib.index l [c] = p.1.length ∧ l = p.1 ++ c :: p.2 := by
  induction l with
  | nil => left; exact ⟨rfl, rfl⟩
  | cons x r ih =>
    have hp : [c].isPrefixOf (x :: r) = (c == x) := by simp [List.isPrefixOf]
    unfold cutAt Lib.index
    rw [hp]
    by_cases h : x = c
    · right
      subst h
      exact ⟨([], r), by rw [if_pos rfl], by simp, rfl⟩
    · have hcx : (c == x) = false := by rw [beq_eq_false_iff_ne]; exact fun e => h e.symm
      rw [if_neg h, hcx, if_neg (by simp)]
      rcases ih with ⟨h1, h2⟩ | ⟨p, h1, h2, h3⟩
      · left
        rw [h1, h2]
        exact ⟨rfl, rfl⟩
      · right
        rw [h1, h2]
        refine ⟨(x :: p.1, p.2), rfl, ?_, by rw [List.cons_append, ← h3]⟩
        rw [if_neg (by simp)]
        simp
theorem cut_eq (c : UInt8) (l : List UInt8) : Lib.cut l [c] = match cutAt c l with | none => (l, [], false) | some p => (p.1, p.2, true) := by
  unfold Lib.cut
  rcases index_cut c l with ⟨h1, h2⟩ | ⟨p, h1, h2, h3⟩
  · rw [h1, h2, if_neg (by omega)]
  · rw [h1, h2, if_pos (by omega), Int.toNat_natCast]
    show (List.take p.1.length l, List.drop (p.1.length + 1) l, true) = (p.1, p.2, true)
    rw [h3]
    simp
theorem cut_f (x : ByteArray) (c : UInt8) (hx : x.size ≤ 1000000) : strings_Cut.f x ⟨#[c]⟩ = some (match cutAt c (by_ x) with | none => (x, ⟨#[]⟩, false) | some p => (⟨p.1.toArray⟩, ⟨p.2.toArray⟩, true)) := by
  unfold strings_Cut.f
  rw [if_pos (by omega)]
  have e : Lib.cut x.data.toList (⟨#[c]⟩ : ByteArray).data.toList = _ := cut_eq c (by_ x)
  rw [e]
  cases cutAt c (by_ x) with
  | none => congr 1
  | some p => rfl
theorem cutPrefix_f (x : ByteArray) (c : UInt8) : strings_CutPrefix.f x ⟨#[c]⟩ = some (match dropHead c (by_ x) with | none => (x, false) | some r => (⟨r.toArray⟩, true)) := by
  have hl := by_len x
  unfold strings_CutPrefix.f stringslite_CutPrefix.f stringslite_HasPrefix.f
  have h1 : ((⟨#[c]⟩ : ByteArray).size : Int) = 1 := rfl
  rw [h1]
  by_cases h : (x.size : Int) ≥ 1
  · rw [if_pos h, if_pos (by omega), if_pos h, Option.bind_some]
    have ht : (x.extract 0 (1 : Int).toNat).toList = (by_ x).take 1 := by
      rw [ByteArray.toList_eq]; exact by_take x 1
    have hs : (⟨#[c]⟩ : ByteArray).toList = [c] := by rw [ByteArray.toList_eq]
    rw [ht, hs]
    have hd := by_drop x 1
    cases e : by_ x with
    | nil => rw [e] at hl; simp at hl; omega
    | cons a r =>
      rw [e] at hd
      by_cases hc : a = c
      · subst hc
        have e9 : dropHead a (a :: r) = some r := if_pos rfl
        rw [e9]
        have : (List.take 1 (a :: r) == [a]) = true := by simp
        rw [this, if_pos rfl, if_pos (by omega), if_pos h, Option.bind_some]
        congr 1
        have : x.extract (1 : Int).toNat x.size = ⟨r.toArray⟩ := by_inj hd
        rw [this]
      · have e9 : dropHead c (a :: r) = none := if_neg hc
        rw [e9]
        have : (List.take 1 (a :: r) == [c]) = false := by simp [hc]
        rw [this, if_neg (by simp), Option.bind_some]
  · rw [if_neg h, Option.bind_some, if_neg (by simp), Option.bind_some]
    have : by_ x = [] := List.eq_nil_of_length_eq_zero (by omega)
    rw [this]; rfl
theorem cutAt_len' (c : UInt8) (l : List UInt8) (p : List UInt8 × List UInt8) (h : cutAt c l = some p) : l = p.1 ++ c :: p.2 := by
  rcases index_cut c l with ⟨h1, _⟩ | ⟨q, h1, _, h2⟩
  · rw [h1] at h; cases h
  · rw [h1] at h; rw [← Option.some.inj h]; exact h2
theorem mk_size (l : List UInt8) : (⟨l.toArray⟩ : ByteArray).size = l.length := by rw [← by_len]; rfl
theorem to_by (x : ByteArray) : x.toList = by_ x := by rw [ByteArray.toList_eq]; rfl
def dig (c : UInt8) : Bool := decide (48 ≤ c.toNat) && decide (c.toNat ≤ 57)
def plainS (l : List UInt8) : Bool := l.all dig && !l.isEmpty
theorem plain_l (x : ByteArray) (hx : x.size ≤ 1000000) (d : Nat) : ∀ k j : Nat, j + d = x.size → d + 1 ≤ k → fixnum_plain.l0 k x (x.size : Int) (j : Int) = some (((by_ x).drop j).all dig && !(by_ x).isEmpty) := by
  have hl := by_len x
  induction d with
  | zero =>
    intro k j hj hk
    obtain ⟨k, rfl⟩ : ∃ m, k = m + 1 := ⟨k - 1, by omega⟩
    rw [fixnum_plain.l0, if_neg (by omega), List.drop_of_length_le (by omega), to_by]
    simp only [List.all_nil, Bool.true_and]
    cases by_ x <;> rfl
  | succ d ih =>
    intro k j hj hk
    obtain ⟨k, rfl⟩ : ∃ m, k = m + 1 := ⟨k - 1, by omega⟩
    have hjl : j < (by_ x).length := by omega
    rw [fixnum_plain.l0, if_pos (by omega), if_pos (by omega), if_pos (by omega), bt_by x j hjl, wr _ (by omega) (by omega), List.drop_eq_getElem_cons hjl]
    simp only [List.all_cons, dig]
    generalize (by_ x)[j] = c
    by_cases c1 : (c.toNat : Int) < 48
    · rw [if_pos c1, decide_eq_false (show ¬ 48 ≤ c.toNat by omega)]
      simp
    · rw [if_neg c1, decide_eq_true (show 48 ≤ c.toNat by omega)]
      by_cases c2 : (c.toNat : Int) > 57
      · rw [if_pos c2, decide_eq_false (show ¬ c.toNat ≤ 57 by omega)]
        simp
      · rw [if_neg c2, decide_eq_true (show c.toNat ≤ 57 by omega)]
        have := ih k (j + 1) (by omega) (by omega)
        rw [show (((j + 1 : Nat) : Int)) = (j : Int) + 1 by omega] at this
        rw [this]
        simp
theorem plain_f (x : ByteArray) (hx : x.size ≤ 1000000) (k : Nat) (hk : x.size + 1 ≤ k) : fixnum_plain.f k x = some (plainS (by_ x)) := by
  unfold fixnum_plain.f plainS
  have := plain_l x hx x.size k 0 (by omega) (by omega)
  simpa using this
def sgnS (u : Nat) (neg : Bool) : Int × Bool := if neg then (if u ≤ 9223372036854775808 then (-(u : Int), true) else (0, false)) else (if u ≤ 9223372036854775807 then ((u : Int), true) else (0, false))
theorem signed_f (u : Nat) (neg : Bool) (h : u < 18446744073709551616) : fixnum_signed.f 3 (u : Int) neg = some (sgnS u neg) := by
  rw [signed3_eq _ _ (by omega) (by omega)]
  unfold sgnS
  cases neg
  · simp only [Bool.false_eq_true, if_false]
    by_cases c : u ≤ 9223372036854775807
    · rw [if_pos (by omega), if_pos c]
    · rw [if_neg (by omega), if_neg c]
  · simp only [if_true]
    by_cases c : u ≤ 9223372036854775808
    · rw [if_pos (by omega), if_pos c]
    · rw [if_neg (by omega), if_neg c]
def tailS (w part : List UInt8) (neg : Bool) : Int × Bool :=
  match isOk (Lib.parseUintB 64 (w ++ part ++ Lib.repeatL [48] (4 - part.length))) with
  | some u => sgnS u neg
  | none => (0, false)
/-- what a text says: the sign, the whole part, the part behind the point -/
def unsS (l : List UInt8) (neg : Bool) : Int × Bool :=
  match cutAt 46 l with
  | none => if plainS l = false then (0, false) else if 1 < l.length ∧ l.head? = some 48 then (0, false) else if 16 < l.length then (0, false) else tailS l [] neg
  | some (w, part) => if plainS w = false then (0, false) else if 1 < w.length ∧ w.head? = some 48 then (0, false) else if 16 < w.length then (0, false)
    else if plainS part = false then (0, false) else if 4 < part.length then (0, false) else tailS w part neg
def parseS (l : List UInt8) : Int × Bool := match dropHead 45 l with | none => unsS l false | some r => unsS r true
theorem parseUintM_le (M : Nat) (l : List UInt8) : ∀ (acc u : Nat), acc ≤ M → Lib.parseUintM M acc l = .ok u → u ≤ M := Ext.parseUintM_le M l
theorem tail_f (w part : ByteArray) (neg : Bool) : parseTail w part neg = some (tailS (by_ w) (by_ part) neg) := by
  unfold parseTail tailS
  have e : (w ++ part ++ ⟨(Lib.repeatL [48] (4 - part.size)).toArray⟩ : ByteArray).data.toList = by_ w ++ by_ part ++ Lib.repeatL [48] (4 - (by_ part).length) := by
    rw [by_len]
    simp [by_]
  rw [e]
  generalize by_ w ++ by_ part ++ Lib.repeatL [48] (4 - (by_ part).length) = l
  cases h : isOk (Lib.parseUintB 64 l) with
  | none => rfl
  | some u =>
    have hu : Lib.parseUintB 64 l = .ok u := by
      revert h
      cases Lib.parseUintB 64 l with
      | ok v => intro h; rw [show v = u from Option.some.inj h]
      | _ => intro h; cases h
    have := Ext.parseUintB_le 64 l u hu
    exact signed_f u neg (by omega)
theorem head_by (x : ByteArray) (h : 1 < x.size) : (bt x 0 = 48) ↔ (by_ x).head? = some 48 := by
  have hl := by_len x
  have h0 : 0 < (by_ x).length := by omega
  have := bt_by x 0 h0
  rw [show ((0 : Nat) : Int) = 0 from rfl] at this
  rw [this]
  rw [List.head?_eq_getElem?, List.getElem?_eq_getElem h0, Option.some.injEq]
  generalize (by_ x)[0] = c
  constructor
  · intro h'; exact UInt8.toNat_inj.mp (by rw [show (48 : UInt8).toNat = 48 from rfl]; omega)
  · rintro rfl; rfl
theorem uns_f (x : ByteArray) (hx : x.size ≤ 100000) (k : Nat) (hk : x.size + 1 ≤ k) (neg : Bool) :
    ((strings_Cut.f x ⟨#[46]⟩).bind fun d => (fixnum_plain.f k d.1).bind fun p =>
      if p = false then some (0, false) else if 1 < d.1.size ∧ bt d.1 0 = 48 then some (0, false) else if 16 < d.1.size then some (0, false)
      else if d.2.2 = true then (fixnum_plain.f k d.2.1).bind fun p2 => if p2 = false then some (0, false) else if 4 < d.2.1.size then some (0, false) else parseTail d.1 d.2.1 neg
      else if d.2.1.size = 0 then parseTail d.1 d.2.1 neg else none) = some (unsS (by_ x) neg) := by
  rw [cut_f x 46 (by omega)]
  have hl := by_len x
  unfold unsS
  cases e : cutAt 46 (by_ x) with
  | none =>
    simp only [Option.bind_some]
    rw [plain_f x (by omega) k hk, Option.bind_some]
    have e0 : (⟨#[]⟩ : ByteArray).size = 0 := rfl
    by_cases c1 : plainS (by_ x) = false
    · rw [if_pos c1, if_pos c1]
    · rw [if_neg c1, if_neg c1]
      by_cases c2 : 1 < x.size ∧ bt x 0 = 48
      · rw [if_pos c2, if_pos ⟨by omega, (head_by x c2.1).mp c2.2⟩]
      · rw [if_neg c2, if_neg (show ¬ (1 < (by_ x).length ∧ (by_ x).head? = some 48) from fun h => c2 ⟨by omega, (head_by x (by omega)).mpr h.2⟩)]
        by_cases c3 : 16 < x.size
        · rw [if_pos c3, if_pos (by omega)]
        · rw [if_neg c3, if_neg (show ¬ (false = true) by decide), if_pos e0, if_neg (show ¬ 16 < (by_ x).length by omega), tail_f]
          rfl
  | some p =>
    obtain ⟨w, part⟩ := p
    have hc := cutAt_len' 46 _ _ e
    have hw : (⟨w.toArray⟩ : ByteArray).size = w.length := mk_size w
    have hp : (⟨part.toArray⟩ : ByteArray).size = part.length := mk_size part
    have hs : w.length + part.length + 1 = x.size := by rw [← hl, hc]; simp; omega
    simp only [Option.bind_some]
    rw [plain_f _ (by omega) k (by omega), Option.bind_some, by_mk, hw]
    by_cases c1 : plainS w = false
    · rw [if_pos c1, if_pos c1]
    · rw [if_neg c1, if_neg c1]
      have hb : 1 < w.length → ((bt ⟨w.toArray⟩ 0 = 48) ↔ w.head? = some 48) := fun h => head_by ⟨w.toArray⟩ (by omega)
      by_cases c2 : 1 < w.length ∧ bt ⟨w.toArray⟩ 0 = 48
      · rw [if_pos c2, if_pos ⟨c2.1, (hb c2.1).mp c2.2⟩]
      · rw [if_neg c2, if_neg (show ¬ (1 < w.length ∧ w.head? = some 48) from fun h => c2 ⟨h.1, (hb h.1).mpr h.2⟩)]
        by_cases c3 : 16 < w.length
        · rw [if_pos c3, if_pos c3]
        · rw [if_neg c3, if_neg c3, if_pos trivial, plain_f _ (by omega) k (by omega), Option.bind_some, by_mk, hp]
          by_cases c4 : plainS part = false
          · rw [if_pos c4, if_pos c4]
          · rw [if_neg c4, if_neg c4]
            by_cases c5 : 4 < part.length
            · rw [if_pos c5, if_pos c5]
            · rw [if_neg c5, if_neg c5, tail_f]
              rfl
theorem parse_f (x : ByteArray) (hx : x.size ≤ 100000) : fixnum_Parse.f x = some (parseS (by_ x)) := by
  unfold fixnum_Parse.f parseS
  have hl := by_len x
  rw [if_pos hx, cutPrefix_f, Option.bind_some]
  cases e : dropHead 45 (by_ x) with
  | none => exact uns_f x hx (x.size + 2) (by omega) false
  | some r =>
    have hr := dropHead_len 45 _ _ e
    have hs : (⟨r.toArray⟩ : ByteArray).size + 1 = x.size := by rw [mk_size, ← hl, hr]; simp
    exact uns_f ⟨r.toArray⟩ (by omega) (x.size + 2) (by omega) true
end Go.Proofs.YtfnbflhoaemmeaaGreatDoor.EFix
