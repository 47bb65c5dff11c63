/- The column's name behind n is the next one to n's, letter by letter. Condition: enough rounds. -/
import Derived.Test.YtpabggjnkoehfaaDoorA1Begun
import Derived.Test.YtpabggjnkoehfaaDoorColWalk
namespace Go.Proofs.YtpabggjnkoehfaaDoor.ERef
open Go.RowKit Go.Lib Go.Proofs.YtpabggjnkoehfaaDoorW.PrintWords Go.Proofs.YtpabggjnkoehfaaDoorW.PrintLast Go.Proofs.YtpabggjnkoehfaaDoor.Ext Go.Proofs.YtpabggjnkoehfaaDoor.A1
/-- the name of the m-th column (from 1) -/
def nm (m : Nat) : List UInt8 := if _h : m = 0 then [] else nm ((m - 1) / 26) ++ [UInt8.ofNat (65 + (m - 1) % 26)]
termination_by m
decreasing_by omega
theorem nm_of (N : Nat) : ∀ (l : List UInt8) (m : Nat), l.length = N → (∀ c, c ∈ l → isAZ c) → colGo 0 l = some m → l = nm m := by
  induction N with
  | zero =>
    intro l m hl _ h
    obtain rfl := List.length_eq_zero_iff.mp hl
    obtain rfl : 0 = m := Option.some.inj h
    rw [nm, dif_pos rfl]
  | succ N ih =>
    intro l m hl hz h
    have hne : l ≠ [] := by rintro rfl; simp at hl
    have e := (List.dropLast_concat_getLast hne).symm
    generalize l.dropLast = y at e
    generalize l.getLast hne = c at e
    clear hne
    subst e
    have hc := hz c (by simp)
    rw [colGo_app] at h
    cases hy : colGo 0 y with
    | none => rw [hy] at h; cases h
    | some q =>
      rw [hy] at h
      have h' : (if 65 ≤ c.toNat ∧ c.toNat ≤ 90 then colGo (26 * q + (c.toNat - 65) + 1) [] else none) = some m := h
      obtain ⟨c1, c2⟩ := hc
      rw [if_pos ⟨c1, c2⟩] at h'
      have h2 : 26 * q + (c.toNat - 65) + 1 = m := Option.some.inj h'
      have hy' := ih y q (by simpa using hl) (fun d hd => hz d (by simp [hd])) hy
      rw [nm, dif_neg (by omega), show (m - 1) / 26 = q by omega, ← hy', show 65 + (m - 1) % 26 = c.toNat by omega, UInt8.ofNat_toNat]
theorem inc_app (r : List UInt8) (m : Nat) : ∀ l : List UInt8, m ≤ l.length → incFrom (l ++ r) m = incFrom l m ++ r := by
  induction m with
  | zero => intro l _; rfl
  | succ m ih =>
    intro l h
    have hm : m < l.length := by omega
    have g : (l ++ r).getD m 0 = l.getD m 0 := by simp [List.getD, List.getElem?_append, hm]
    have s : ∀ x, (l ++ r).set m x = l.set m x ++ r := fun x => by rw [List.set_append, if_pos hm]
    simp only [incFrom, g, s]
    by_cases c : l.getD m 0 = 90
    · rw [if_pos c, if_pos c, ih _ (by simpa using by omega)]
    · rw [if_neg c, if_neg c]
theorem inc_snoc (l : List UInt8) (c : UInt8) : incFrom (l ++ [c]) (l ++ [c]).length = if c = 90 then incFrom l l.length ++ [65] else l ++ [c + 1] := by
  have e : (l ++ [c]).length = l.length + 1 := by simp
  rw [e, incFrom]
  have g : (l ++ [c]).getD l.length 0 = c := by simp [List.getD]
  have s : ∀ x, (l ++ [c]).set l.length x = l ++ [x] := fun x => by rw [List.set_append, if_neg (by omega)]; simp
  rw [g, s, s]
  by_cases h : c = 90
  · rw [if_pos h, if_pos h, inc_app _ _ _ (Nat.le_refl _)]
  · rw [if_neg h, if_neg h]
theorem inc_nm (m : Nat) : incFrom (nm m) (nm m).length = nm (m + 1) := by
  induction m using Nat.strongRecOn with
  | ind m ih =>
    by_cases h0 : m = 0
    · subst h0
      have e : nm 0 = [] := by rw [nm, dif_pos rfl]
      have e1 : nm 1 = [65] := by rw [nm, dif_neg (by decide), show (1 - 1) / 26 = 0 from rfl, e]; rfl
      rw [e]
      exact e1.symm
    · have e : nm m = nm ((m - 1) / 26) ++ [UInt8.ofNat (65 + (m - 1) % 26)] := by rw [nm, dif_neg h0]
      have e2 : nm (m + 1) = nm (m / 26) ++ [UInt8.ofNat (65 + m % 26)] := by rw [nm, dif_neg (by omega), show m + 1 - 1 = m by omega]
      rw [e, inc_snoc, e2]
      clear e e2
      have hd : (m - 1) % 26 < 26 := Nat.mod_lt _ (by omega)
      have hn : (UInt8.ofNat (65 + (m - 1) % 26)).toNat = 65 + (m - 1) % 26 := by rw [UInt8.toNat_ofNat']; omega
      by_cases h : (m - 1) % 26 = 25
      · have c : UInt8.ofNat (65 + (m - 1) % 26) = 90 := by rw [h]; rfl
        rw [if_pos c, ih _ (by omega), show m / 26 = (m - 1) / 26 + 1 by omega, show m % 26 = 0 by omega]
        rfl
      · have c : UInt8.ofNat (65 + (m - 1) % 26) ≠ 90 := fun h' => by
          have := congrArg UInt8.toNat h'
          rw [hn, show (90 : UInt8).toNat = 90 from rfl] at this
          omega
        rw [if_neg c, show m / 26 = (m - 1) / 26 by omega, show 65 + m % 26 = 65 + (m - 1) % 26 + 1 by omega]
        generalize 65 + (m - 1) % 26 = x
        rw [UInt8.ofNat_add x 1]
        rfl
theorem cols (n : Int) (h0 : 0 ≤ n) (h1 : n ≤ 1099511627776) : ∃ s t, a1_ColName.f 300 n = some s ∧ a1_ColName.f 300 (n + 1) = some t ∧ t.data.toList = incFrom s.data.toList s.size ∧ s.size ≤ 1000 := by
  obtain ⟨s, e1, g1, l1, z1, _⟩ := colname_is 300 (by omega) n h0 (by omega)
  obtain ⟨t, e2, g2, l2, z2, _⟩ := colname_is 300 (by omega) (n + 1) (by omega) (by omega)
  have a1 := nm_of _ _ _ rfl z1 g1
  have a2 := nm_of _ _ _ rfl z2 g2
  refine ⟨s, t, e1, e2, ?_, ?_⟩
  · have hl : s.size = (by_ s).length := (by_len s).symm
    show by_ t = incFrom (by_ s) s.size
    rw [hl, a2, a1, inc_nm, show (n + 1 + 1).toNat = (n + 1).toNat + 1 by omega]
  · have hl : s.size = (by_ s).length := (by_len s).symm
    omega
theorem col_neg : a1_ColName.f 300 (-1) = some ⟨#[]⟩ := by
  unfold a1_ColName.f
  rw [if_pos (by omega), a1_ColName.j0, if_pos rfl]
theorem refColumns_walk (n : Int) (w : World) (hL : Aside0 (Lq w)) : Calls Tryd.prog 5 #[.int .i64 n] w fun e w' => e = .returned (.bool true) ∧ Below w.heap.size w w' := by
  by_cases h : n < 0 ∨ 1099511627776 < n
  · exact RefColumns.out n w hL ⟨begun_f 300 (by omega)⟩ h ⟨col_neg⟩
  · obtain ⟨s, t, e1, e2, e3, e4⟩ := cols n (by omega) (by omega)
    exact RefColumns.mid n s t w hL ⟨begun_f 300 (by omega)⟩ (by omega) (by omega) ⟨e1⟩ ⟨e2⟩ ⟨e3⟩ e4
end Go.Proofs.YtpabggjnkoehfaaDoor.ERef
