/- The printed law RefPrint answers true, whatever the reference and the number. -/
import Derived.Test.YtpabggjnkoehfaaDoorA1Begun
import Derived.Test.YtpabggjnkoehfaaDoorA1Back
import Derived.Test.YtpabggjnkoehfaaDoorA1RefP
import Derived.Test.YtpabggjnkoehfaaDoorERef9
namespace Go.Proofs.YtpabggjnkoehfaaDoor.ERef
open Go.RowKit Go.Lib Go.Proofs.YtpabggjnkoehfaaDoorW.PrintWords Go.Proofs.YtpabggjnkoehfaaDoorW.PrintLast Go.Proofs.YtpabggjnkoehfaaDoor.Ext Go.Proofs.YtpabggjnkoehfaaDoor.A1
theorem refPrint_pure (a : ByteArray) (r c : Int) (ra ca : Bool) (n : Int) : counterpanelaw5_RefPrint.f 300 a r c ra ca n = some true := by
  obtain ⟨b, hb, hz⟩ := short_f a 40
  have hb' : counterpanelaw5_Short.f a 40 = some b := hb
  obtain ⟨col, p, hc, hp, hps, hpb⟩ := print_f 300 (by omega) b r c ra ca (by omega)
  obtain ⟨col', q, hc', hq, hqb⟩ := refprint_f 300 b r c ra ca (by omega) (by omega)
  have hcc : col' = col := by
    have := at_rounds (fun k => a1_ColName.mono c k) (show 300 - 2 ≤ 300 by omega) hc'
    rw [hc] at this
    injection this with this
    exact this.symm
  subst hcc
  have hpq : p = q := by_inj (by rw [hpb, hqb])
  subst hpq
  obtain ⟨nm, hn, hns, hnp⟩ := colname_f 300 (by omega) n
  have hn' := at_rounds (fun k => a1_ColName.mono n k) (show 299 ≤ 300 by omega) (r := nm)
  obtain ⟨nm2, hn2, hns2, hnp2⟩ := colname_f 299 (by omega) n
  have : nm2 = nm := by
    have := at_rounds (fun k => a1_ColName.mono n k) (show 299 ≤ 300 by omega) hn2
    rw [hn] at this
    injection this with this
    exact this.symm
  subst this
  unfold counterpanelaw5_RefPrint.f
  rw [begun_f 300 (by omega), Option.bind_some, if_pos rfl, hb', Option.bind_some, hp, Option.bind_some, hq, Option.bind_some, if_pos rfl, hn, Option.bind_some, colname_ref, hn, Option.bind_some, counterpanelaw5_RefPrint.j0, if_neg (by simp)]
  rw [parse_f 299 p (by omega) (by omega), Option.bind_some, hn2, Option.bind_some, col_f 299 (by omega), Option.bind_some, if_pos rfl, may_f 299 b r c ra ca (by omega) (by omega), Option.bind_some]
  have last : (if n ≥ 0 then (if ((colS (by_ nm2)).2 == (decide (n < 2199023255552))) = true then (if (colS (by_ nm2)).2 = true then (some ((colS (by_ nm2)).1 == n)) else (some true)) else (some false)) else (if ((colS (by_ nm2)).2 == false) = true then (if (colS (by_ nm2)).2 = true then (some ((colS (by_ nm2)).1 == n)) else (some true)) else (some false))) = some true := by
    by_cases h : 0 ≤ n ∧ n < 2199023255552
    · obtain ⟨nm3, e3, q1, q2, q3, q4⟩ := colname_is 299 (by omega) n h.1 h.2
      rw [hn2] at e3
      injection e3 with e3
      subst e3
      rw [colS_name _ n h.1 h.2 q1 q2 q4, if_pos h.1]
      simp [h.2]
    · have : by_ nm2 = [] := by
        have hl := by_len nm2
        refine List.eq_nil_of_length_eq_zero ?_
        by_cases q : 0 < nm2.size
        · exact absurd (hnp2.1 q) h
        · omega
      have e : colS (by_ nm2) = (0, false) := by rw [this]; rfl
      rw [e]
      by_cases h0 : n ≥ 0
      · rw [if_pos h0, decide_eq_false (by omega)]; rfl
      · rw [if_neg h0]; rfl
  by_cases hm : mayS b r c
  · rw [if_pos hm] at hpb
    obtain ⟨col3, e3, q1, q2, q3, q4⟩ := colname_is 300 (by omega) c hm.2.2.2.1 hm.2.2.2.2
    rw [hc] at e3
    injection e3 with e3
    subst e3
    rw [hpb, back b r c col' ra ca hm (colS_name _ c hm.2.2.2.1 hm.2.2.2.2 q1 q2 q4) q3 q4, decide_eq_true hm]
    simp only [beq_self_eq_true, if_true, same_f, Option.bind_some]
    exact last
  · rw [if_neg hm] at hpb
    have e : refS (by_ p) = badS := by rw [hpb]; rfl
    rw [e, decide_eq_false hm]
    dsimp only [badS]
    refine Eq.trans (if_pos rfl) (Eq.trans (if_neg Bool.false_ne_true) last)
end Go.Proofs.YtpabggjnkoehfaaDoor.ERef
