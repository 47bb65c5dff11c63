/- A reference's text, read again, is the reference. -/
import Derived.Test.YtpabggjnkoehfaaDoorA1Col
namespace Go.Proofs.YtpabggjnkoehfaaDoor.ERef
open Go.RowKit Go.Lib Go.Proofs.YtpabggjnkoehfaaDoorW.PrintWords Go.Proofs.YtpabggjnkoehfaaDoorW.PrintLast Go.Proofs.YtpabggjnkoehfaaDoor.Ext Go.Proofs.YtpabggjnkoehfaaDoor.A1
theorem cutAt_none (c : UInt8) (l : List UInt8) (h : ∀ d, d ∈ l → d ≠ c) : cutAt c l = none := by
  rcases index_cut c l with ⟨h1, _⟩ | ⟨p, _, _, h3⟩
  · exact h1
  · exact absurd rfl (h c (by rw [h3]; simp))
theorem cutAt_app (c : UInt8) (l r : List UInt8) (h : ∀ d, d ∈ l → d ≠ c) : cutAt c (l ++ c :: r) = some (l, r) := by
  induction l with
  | nil => exact if_pos rfl
  | cons x l ih =>
    have e := ih fun d hd => h d (List.mem_cons_of_mem _ hd)
    show (if x = c then some ([], l ++ c :: r) else match cutAt c (l ++ c :: r) with | none => none | some p => some (x :: p.1, p.2)) = _
    rw [if_neg (h x (List.mem_cons_self ..)), e]
theorem numS_dig (l : List UInt8) (m : Int) (h : 0 ≤ numS l m) : ∀ c, c ∈ l → isDig c := by
  unfold numS at h
  by_cases q : canon l ∧ l.length ≤ 15 ∧ (dval 0 l : Int) ≤ m
  · exact q.1.2.1
  · rw [if_neg q] at h; omega
theorem owner_chars (l : List UInt8) (h : 0 ≤ ownerS l) : ∀ c, c ∈ l → c ≠ 33 := by
  have nd : ∀ c : UInt8, isDig c → c ≠ 33 := by
    rintro c hc rfl
    have : isDig 33 := hc
    unfold isDig at this
    exact absurd this (by decide)
  unfold ownerS at h
  cases e : cutAt 110 l with
  | none => rw [e] at h; exact absurd h (by decide)
  | some p =>
    rw [e] at h
    dsimp only at h
    cases e2 : dropHead 99 p.1 with
    | none => rw [e2] at h; exact absurd (show (0 : Int) ≤ -1 from h) (by decide)
    | some c =>
      rw [e2] at h
      dsimp only at h
      by_cases q : 0 ≤ numS c 15 ∧ 0 ≤ numS p.2 999999
      · intro d hd
        rw [cutAt_len 110 l p e, dropHead_len 99 p.1 c e2] at hd
        rcases List.mem_append.1 hd with hd | hd
        · rcases List.mem_cons.1 hd with rfl | hd
          · decide
          · exact nd d (numS_dig c 15 q.1 d hd)
        · rcases List.mem_cons.1 hd with rfl | hd
          · decide
          · exact nd d (numS_dig p.2 _ q.2 d hd)
      · rw [if_neg q] at h; exact absurd h (by decide)
theorem runAZ_app (l r : List UInt8) (h : ∀ c, c ∈ l → isAZ c) : runAZ (l ++ r) = l.length + runAZ r := by
  induction l with
  | nil => simp
  | cons x l ih =>
    have hx : 65 ≤ x.toNat ∧ x.toNat ≤ 90 := h x (List.mem_cons_self ..)
    show (if 65 ≤ x.toNat ∧ x.toNat ≤ 90 then runAZ (l ++ r) + 1 else 0) = _
    rw [if_pos hx, ih fun c hc => h c (List.mem_cons_of_mem _ hc), List.length_cons]
    omega
theorem itoa_is (n : Int) (h0 : 0 ≤ n) (h1 : n < 10000000000000) : canon (itoa n) ∧ (itoa n).length ≤ 15 ∧ (dval 0 (itoa n) : Int) = n := by
  have h13 : 10 ^ (12 + 1) = 10000000000000 := by decide
  have hl := dec_len 12 n.toNat (by omega)
  have hc := dec_canon n.toNat
  unfold itoa
  rw [if_neg (by omega)]
  refine ⟨hc.1, by omega, ?_⟩
  rw [hc.2.1]
  omega
theorem numS_itoa (n m : Int) (h0 : 0 ≤ n) (h1 : n ≤ m) (h2 : n < 10000000000000) : numS (itoa n) m = n := by
  obtain ⟨a, b, c⟩ := itoa_is n h0 h2
  unfold numS
  rw [if_pos ⟨a, b, by omega⟩, c]
theorem head_dig (n : Int) (h0 : 0 ≤ n) (h2 : n < 10000000000000) : ∃ d r, itoa n = d :: r ∧ isDig d := by
  obtain ⟨a, _, _⟩ := itoa_is n h0 h2
  cases e : itoa n with
  | nil => exact absurd e a.1
  | cons d r => exact ⟨d, r, rfl, a.2.1 d (by rw [e]; exact List.mem_cons_self ..)⟩
theorem dig_ne (d : UInt8) (h : isDig d) : d ≠ 36 ∧ d ≠ 33 ∧ ¬ (65 ≤ d.toNat ∧ d.toNat ≤ 90) := by
  unfold isDig at h
  refine ⟨?_, ?_, by omega⟩
  · rintro rfl; exact absurd h (by decide)
  · rintro rfl; exact absurd h (by decide)
theorem az_ne (d : UInt8) (h : isAZ d) : d ≠ 36 ∧ d ≠ 33 := by
  unfold isAZ at h
  refine ⟨?_, ?_⟩
  · rintro rfl; exact absurd h (by decide)
  · rintro rfl; exact absurd h (by decide)
/-- what stands behind the sheet -/
def bodyS (r : Int) (col : List UInt8) (ra ca : Bool) : List UInt8 := (if ca then [36] else []) ++ (col ++ ((if ra then [36] else []) ++ itoa (r + 1)))
theorem mark_some (l : List UInt8) (v : Bool) (h : ∃ d r, l = d :: r ∧ d ≠ 36) : markS ((if v then [36] else []) ++ l) = (l, v) := by
  obtain ⟨d, r, rfl, hd⟩ := h
  cases v
  · have : dropHead 36 (d :: r) = none := if_neg hd
    show (match dropHead 36 (d :: r) with | none => (d :: r, false) | some r => (r, true)) = _
    rw [this]
  · rfl
theorem tail_body (sh : ByteArray) (r c : Int) (col : List UInt8) (ra ca : Bool) (hr0 : 0 ≤ r) (hr1 : r < 2199023255552) (hc : colS col = (c, true)) (hz : ∀ d, d ∈ col → isAZ d) (hn : col ≠ []) :
    tailS sh (bodyS r col ra ca) = (sh, r, c, ra, ca, true) := by
  obtain ⟨d, t, hd, hdd⟩ := head_dig (r + 1) (by omega) (by omega)
  have m1 : markS (bodyS r col ra ca) = (col ++ ((if ra then [36] else []) ++ itoa (r + 1)), ca) := by
    refine mark_some _ ca ?_
    cases e : col with
    | nil => exact absurd e hn
    | cons x y => exact ⟨x, _, rfl, (az_ne x (hz x (by rw [e]; exact List.mem_cons_self ..))).1⟩
  have m2 : markS ((if ra then [36] else []) ++ itoa (r + 1)) = (itoa (r + 1), ra) := mark_some _ ra ⟨d, t, hd, (dig_ne d hdd).1⟩
  have hrun : runAZ ((if ra then [36] else []) ++ itoa (r + 1)) = 0 := by
    cases ra
    · show runAZ (itoa (r + 1)) = 0
      rw [hd]
      exact if_neg (dig_ne d hdd).2.2
    · rfl
  unfold tailS
  rw [m1]
  dsimp only
  rw [runAZ_app _ _ hz, hrun, Nat.add_zero]
  unfold endS
  have ht : List.take col.length (col ++ ((if ra then [36] else []) ++ itoa (r + 1))) = col := by simp
  have hdr : List.drop col.length (col ++ ((if ra then [36] else []) ++ itoa (r + 1))) = (if ra then [36] else []) ++ itoa (r + 1) := by simp
  rw [ht, hdr, m2, hc]
  dsimp only
  rw [numS_itoa _ _ (by omega) (by omega) (by omega), if_pos ⟨rfl, by omega⟩, show r + 1 - 1 = r by omega]
theorem body_chars (r : Int) (col : List UInt8) (ra ca : Bool) (hr0 : 0 ≤ r) (hr1 : r < 2199023255552) (hz : ∀ d, d ∈ col → isAZ d) : ∀ d, d ∈ bodyS r col ra ca → d ≠ 33 := by
  have sg : ∀ (v : Bool) (d : UInt8), d ∈ (if v then [36] else ([] : List UInt8)) → d ≠ 33 := by
    intro v d h
    cases v
    · cases h
    · rw [List.mem_singleton.1 h]; decide
  intro d h
  unfold bodyS at h
  rcases List.mem_append.1 h with h | h
  · exact sg ca d h
  rcases List.mem_append.1 h with h | h
  · exact (az_ne d (hz d h)).2
  rcases List.mem_append.1 h with h | h
  · exact sg ra d h
  · exact (dig_ne d ((itoa_is (r + 1) (by omega) (by omega)).1.2.1 d h)).2.1
theorem back (a : ByteArray) (r c : Int) (col : ByteArray) (ra ca : Bool) (h : mayS a r c) (hc : colS (by_ col) = (c, true)) (hz : ∀ d, d ∈ by_ col → isAZ d) (hn : by_ col ≠ []) :
    refS (printS a r col ra ca) = (a, r, c, ra, ca, true) := by
  have hb := body_chars r (by_ col) ra ca h.2.1 h.2.2.1 hz
  have ht := fun sh => tail_body sh r c (by_ col) ra ca h.2.1 h.2.2.1 hc hz hn
  have e : printS a r col ra ca = (if by_ a = [] then [] else by_ a ++ [33]) ++ bodyS r (by_ col) ra ca := rfl
  rw [e]
  by_cases q : by_ a = []
  · rw [if_pos q, List.nil_append]
    unfold refS
    rw [cutAt_none 33 _ hb]
    dsimp only
    have : a = ⟨#[]⟩ := by_inj q
    rw [ht, this]
  · rw [if_neg q, List.append_assoc, List.singleton_append]
    have ho : 0 ≤ ownerS (by_ a) := h.1.resolve_left q
    unfold refS
    rw [cutAt_app 33 _ _ (owner_chars _ ho)]
    dsimp only
    rw [if_pos ho, ht]
    have : a = ⟨(by_ a).toArray⟩ := by_inj rfl
    rw [← this]
end Go.Proofs.YtpabggjnkoehfaaDoor.ERef
