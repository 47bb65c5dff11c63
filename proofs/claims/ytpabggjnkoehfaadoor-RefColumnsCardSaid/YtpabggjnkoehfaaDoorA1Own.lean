/- Cutting texts and sheets' ids: the program's and the reference's printed functions, as functions of bytes. Conditions: enough rounds; texts below 1,000 bytes. -/
import Derived.Test.YtpabggjnkoehfaaDoorA1Run
namespace Go.Proofs.YtpabggjnkoehfaaDoor.ERef
open Go.RowKit Go.Lib Go.Proofs.YtpabggjnkoehfaaDoorW.PrintWords Go.Proofs.YtpabggjnkoehfaaDoorW.PrintLast Go.Proofs.YtpabggjnkoehfaaDoor.Ext Go.Proofs.YtpabggjnkoehfaaDoor.A1
/-- what stands ahead of the first such byte, and behind it -/
def cutAt (c : UInt8) : List UInt8 → Option (List UInt8 × List UInt8)
  | [] => none
  | x :: r => if x = c then some ([], r) else match cutAt c r with | none => none | some p => some (x :: p.1, p.2)
def dropHead (c : UInt8) : List UInt8 → Option (List UInt8)
  | [] => none
  | x :: r => if x = c then some r else none
theorem dropHead_len (c : UInt8) (l r : List UInt8) (h : dropHead c l = some r) : l = c :: r := by
  cases l with
  | nil => cases h
  | cons a s =>
    by_cases e : a = c
    · have : dropHead c (a :: s) = some s := if_pos e
      rw [this] at h
      injection h with h
      rw [e, h]
    · have : dropHead c (a :: s) = none := if_neg e
      rw [this] at h
      cases h
theorem index_cut (c : UInt8) (l : List UInt8) : (cutAt c l = none ∧ Lib.index l [c] = -1) ∨ ∃ p, cutAt c l = some p ∧ Lib.index l [c] = p.1.length ∧ l = p.1 ++ c :: p.2 := by
  induction l with
  | nil => left; exact ⟨rfl, rfl⟩
  | cons x r ih =>
    have hp : [c].isPrefixOf (x :: r) = (c == x) := by simp [List.isPrefixOf]
    unfold cutAt Lib.index
    rw [hp]
    by_cases h : x = c
    · right
      subst h
      exact ⟨([], r), by rw [if_pos rfl], by simp, rfl⟩
    · have hcx : (c == x) = false := by rw [beq_eq_false_iff_ne]; exact fun e => h e.symm
      rw [if_neg h, hcx, if_neg (by simp)]
      rcases ih with ⟨h1, h2⟩ | ⟨p, h1, h2, h3⟩
      · left
        rw [h1, h2]
        exact ⟨rfl, rfl⟩
      · right
        rw [h1, h2]
        refine ⟨(x :: p.1, p.2), rfl, ?_, by rw [List.cons_append, ← h3]⟩
        rw [if_neg (by simp)]
        simp
theorem cut_eq (c : UInt8) (l : List UInt8) : Lib.cut l [c] = match cutAt c l with | none => (l, [], false) | some p => (p.1, p.2, true) := by
  unfold Lib.cut
  rcases index_cut c l with ⟨h1, h2⟩ | ⟨p, h1, h2, h3⟩
  · rw [h1, h2, if_neg (by omega)]
  · rw [h1, h2, if_pos (by omega), Int.toNat_natCast]
    show (List.take p.1.length l, List.drop (p.1.length + 1) l, true) = (p.1, p.2, true)
    rw [h3]
    simp
theorem cut_f (x : ByteArray) (c : UInt8) (hx : x.size ≤ 1000) : strings_Cut.f x ⟨#[c]⟩ = some (match cutAt c (by_ x) with | none => (x, ⟨#[]⟩, false) | some p => (⟨p.1.toArray⟩, ⟨p.2.toArray⟩, true)) := by
  unfold strings_Cut.f
  rw [if_pos (by omega)]
  have e : Lib.cut x.data.toList (⟨#[c]⟩ : ByteArray).data.toList = _ := cut_eq c (by_ x)
  rw [e]
  cases cutAt c (by_ x) with
  | none => congr 1
  | some p => rfl
theorem cutPrefix_f (x : ByteArray) (c : UInt8) : strings_CutPrefix.f x ⟨#[c]⟩ = some (match dropHead c (by_ x) with | none => (x, false) | some r => (⟨r.toArray⟩, true)) := by
  have hl := by_len x
  unfold strings_CutPrefix.f stringslite_CutPrefix.f stringslite_HasPrefix.f
  have h1 : ((⟨#[c]⟩ : ByteArray).size : Int) = 1 := rfl
  rw [h1]
  by_cases h : (x.size : Int) ≥ 1
  · rw [if_pos h, if_pos (by omega), if_pos h, Option.bind_some]
    have ht : (x.extract 0 (1 : Int).toNat).toList = (by_ x).take 1 := by
      rw [ByteArray.toList_eq]; exact by_take x 1
    have hs : (⟨#[c]⟩ : ByteArray).toList = [c] := by rw [ByteArray.toList_eq]
    rw [ht, hs]
    have hd := by_drop x 1
    cases e : by_ x with
    | nil => rw [e] at hl; simp at hl; omega
    | cons a r =>
      rw [e] at hd
      by_cases hc : a = c
      · subst hc
        have e9 : dropHead a (a :: r) = some r := if_pos rfl
        rw [e9]
        have : (List.take 1 (a :: r) == [a]) = true := by simp
        rw [this, if_pos rfl, if_pos (by omega), if_pos h, Option.bind_some]
        congr 1
        have : x.extract (1 : Int).toNat x.size = ⟨r.toArray⟩ := by_inj hd
        rw [this]
      · have e9 : dropHead c (a :: r) = none := if_neg hc
        rw [e9]
        have : (List.take 1 (a :: r) == [c]) = false := by simp [hc]
        rw [this, if_neg (by simp), Option.bind_some]
  · rw [if_neg h, Option.bind_some, if_neg (by simp), Option.bind_some]
    have : by_ x = [] := List.eq_nil_of_length_eq_zero (by omega)
    rw [this]; rfl
/-- the number behind c, if a text is an id; -1 -/
def ownerS (l : List UInt8) : Int :=
  match cutAt 110 l with
  | none => -1
  | some p => match dropHead 99 p.1 with
    | none => -1
    | some c => if 0 ≤ numS c 15 ∧ 0 ≤ numS p.2 999999 then numS c 15 else -1
theorem cutAt_len (c : UInt8) (l : List UInt8) (p : List UInt8 × List UInt8) (h : cutAt c l = some p) : l = p.1 ++ c :: p.2 := by
  rcases index_cut c l with ⟨h1, _⟩ | ⟨q, h1, _, h3⟩
  · rw [h1] at h; cases h
  · rw [h1] at h; injection h with h; rw [← h]; exact h3
theorem mk_size (l : List UInt8) : (⟨l.toArray⟩ : ByteArray).size = l.length := by rw [← by_len]; rfl
theorem numS_neg (l : List UInt8) (m : Int) (h : ¬ 0 ≤ numS l m) : numS l m = -1 := by
  unfold numS at *
  split at h
  · omega
  · rename_i q; rw [if_neg q]
theorem parts_f (x : ByteArray) (hx : x.size ≤ 1000) : ∃ b, a1_parts.f x = some (ownerS (by_ x), b) := by
  have hl := by_len x
  unfold a1_parts.f ownerS
  rw [show (⟨#[110]⟩ : ByteArray) = ⟨#[(110 : UInt8)]⟩ from rfl, cut_f x 110 hx, Option.bind_some]
  cases e : cutAt 110 (by_ x) with
  | none =>
    dsimp only
    rw [cutPrefix_f x 99, Option.bind_some]
    cases e2 : dropHead 99 (by_ x) with
    | none =>
      dsimp only
      rw [number_f x 15 hx (by omega), Option.bind_some, number_f _ 999999 (by decide) (by omega), Option.bind_some, if_neg (by simp)]
      exact ⟨_, rfl⟩
    | some r =>
      dsimp only
      have hr : r.length ≤ 1000 := by
        have := congrArg List.length (dropHead_len _ _ _ e2); simp at this; omega
      rw [number_f ⟨r.toArray⟩ 15 (by rw [mk_size]; exact hr) (by omega), Option.bind_some, number_f _ 999999 (by decide) (by omega), Option.bind_some, if_neg (by simp)]
      exact ⟨_, rfl⟩
  | some p =>
    dsimp only
    have hp := cutAt_len 110 (by_ x) p e
    have hlen : p.1.length + p.2.length + 1 = x.size := by rw [← hl, hp]; simp; omega
    rw [cutPrefix_f ⟨p.1.toArray⟩ 99, Option.bind_some, by_mk]
    cases e2 : dropHead 99 p.1 with
    | none =>
      dsimp only
      rw [number_f _ 15 (by rw [mk_size]; omega) (by omega), Option.bind_some, number_f _ 999999 (by rw [mk_size]; omega) (by omega), Option.bind_some, if_pos rfl, if_neg (by simp)]
      exact ⟨_, rfl⟩
    | some r =>
      dsimp only
      have hr : r.length ≤ p.1.length := by
        have := congrArg List.length (dropHead_len _ _ _ e2); simp at this; omega
      rw [number_f _ 15 (by rw [mk_size]; omega) (by omega), Option.bind_some, number_f _ 999999 (by rw [mk_size]; omega) (by omega), Option.bind_some, if_pos rfl, if_pos rfl, by_mk, by_mk]
      by_cases h1 : numS r 15 < 0
      · rw [if_pos h1, if_neg (by omega)]; exact ⟨_, rfl⟩
      · rw [if_neg h1]
        by_cases h2 : numS p.2 999999 < 0
        · rw [if_pos h2, if_neg (by omega)]; exact ⟨_, rfl⟩
        · rw [if_neg h2, if_pos (by omega)]; exact ⟨_, rfl⟩
theorem owner_f (x : ByteArray) (hx : x.size ≤ 1000) : a1_Owner.f x = some (ownerS (by_ x)) := by
  obtain ⟨b, h⟩ := parts_f x hx
  unfold a1_Owner.f
  rw [h, Option.bind_some]
theorem id_f (x : ByteArray) (hx : x.size ≤ 1000) : a1_Id.f x = some (decide (ownerS (by_ x) ≥ 0)) := by
  unfold a1_Id.f
  rw [owner_f x hx, Option.bind_some]
end Go.Proofs.YtpabggjnkoehfaaDoor.ERef
