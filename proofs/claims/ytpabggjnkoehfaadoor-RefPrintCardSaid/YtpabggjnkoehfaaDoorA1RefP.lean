/- Writing references: the reference's printed function answers as the plain one. Conditions: enough rounds; sheets' names below 1,000 bytes. -/
import Derived.Test.YtpabggjnkoehfaaDoorA1Prt
import Derived.Test.YtpabggjnkoehfaaDoorERef7
namespace Go.Proofs.YtpabggjnkoehfaaDoor.ERef
open Go.RowKit Go.Lib Go.Proofs.YtpabggjnkoehfaaDoorW.PrintWords Go.Proofs.YtpabggjnkoehfaaDoorW.PrintLast Go.Proofs.YtpabggjnkoehfaaDoor.Ext Go.Proofs.YtpabggjnkoehfaaDoor.A1
theorem refprint_f (k : Nat) (a : ByteArray) (r c : Int) (ra ca : Bool) (ha : a.size ≤ 1000) (hk : 2 * a.size + 40 ≤ k) :
    ∃ col p, a1_ColName.f (k - 2) c = some col ∧ counterpaneref5_PrintRef.f k a r c ra ca = some p ∧ by_ p = if mayS a r c then printS a r col ra ca else [] := by
  obtain ⟨k, rfl⟩ : ∃ m, k = m + 2 := ⟨k - 2, by omega⟩
  have ht : ∀ x : ByteArray, x.toList = by_ x := fun x => by rw [ByteArray.toList_eq]; rfl
  obtain ⟨col, hc, hcs, _⟩ := colname_f k (by omega) c
  unfold counterpaneref5_PrintRef.f
  rw [may_f _ a r c ra ca ha (by omega), Option.bind_some, ht]
  have h1 : (⟨#[36]⟩ : ByteArray).size = 1 := rfl
  have h33 : (⟨#[33]⟩ : ByteArray).size = 1 := rfl
  have b33 : by_ (⟨#[33]⟩ : ByteArray) = [33] := rfl
  have b36 : by_ (⟨#[36]⟩ : ByteArray) = [36] := rfl
  by_cases h : mayS a r c
  · rw [if_pos (decide_eq_true h)]
    have hr0 := h.2.1
    have hr1 := h.2.2.1
    obtain ⟨d, hd, hb⟩ := Dec_f k (by omega) (r + 1) (by omega) (by omega)
    have hz := itoa_len (r + 1) (by omega) (by omega)
    have hdz : d.size ≤ 21 := by rw [← by_len, hb]; exact hz
    have e1 : ∀ s : ByteArray, s.size ≤ 1100 → ∃ p, counterpaneref5_PrintRef.j1 (k + 1) s a r c ra ca = some p ∧ by_ p = by_ s ++ (by_ col ++ ((if ra then [36] else []) ++ itoa (r + 1))) := by
      intro s hs
      rw [counterpaneref5_PrintRef.j1, colname_ref, hc, Option.bind_some, if_pos (by omega), wr _ (by omega) (by omega), hd]
      simp only [Option.bind_some, ByteArray.size_append, h1]
      cases ra
      · rw [if_neg (by simp), if_pos (by omega)]
        refine ⟨_, rfl, ?_⟩
        simp only [by_app, hb, List.append_assoc]
        rfl
      · rw [if_pos rfl, if_pos (by omega), if_pos (by omega)]
        refine ⟨_, rfl, ?_⟩
        simp only [by_app, hb, b36, List.append_assoc]
        rfl
    have e0 : ∀ s : ByteArray, s.size ≤ 1050 → ∃ p, counterpaneref5_PrintRef.j0 (k + 2) s a r c ra ca = some p ∧ by_ p = by_ s ++ ((if ca then [36] else []) ++ (by_ col ++ ((if ra then [36] else []) ++ itoa (r + 1)))) := by
      intro s hs
      rw [counterpaneref5_PrintRef.j0]
      cases ca
      · rw [if_neg (by simp)]
        obtain ⟨p, e, hp⟩ := e1 s (by omega)
        exact ⟨p, e, hp⟩
      · rw [if_pos rfl, if_pos (by omega)]
        obtain ⟨p, e, hp⟩ := e1 (s ++ ⟨#[36]⟩) (by rw [ByteArray.size_append, h1]; omega)
        refine ⟨p, e, ?_⟩
        rw [hp, by_app, b36, List.append_assoc]
        rfl
    by_cases hn : by_ a = []
    · rw [if_pos hn]
      obtain ⟨p, e, hp⟩ := e0 ⟨#[]⟩ (by decide)
      refine ⟨col, p, hc, e, ?_⟩
      rw [if_pos h]
      unfold printS
      rw [if_pos hn]
      exact hp
    · rw [if_neg hn, if_pos (by omega)]
      obtain ⟨p, e, hp⟩ := e0 (a ++ ⟨#[33]⟩) (by rw [ByteArray.size_append, h33]; omega)
      rw [by_app, b33] at hp
      refine ⟨col, p, hc, e, ?_⟩
      rw [if_pos h]
      unfold printS
      rw [if_neg hn]
      exact hp
  · rw [if_neg (by simpa using h)]
    exact ⟨col, _, hc, rfl, by rw [if_neg h]; rfl⟩
end Go.Proofs.YtpabggjnkoehfaaDoor.ERef
