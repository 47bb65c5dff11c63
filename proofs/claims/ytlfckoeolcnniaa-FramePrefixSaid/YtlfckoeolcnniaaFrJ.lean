/- FramePrefix: what a cut leaves of records, and the walk. -/
import Derived.Test.YtlfckoeolcnniaaFrI
namespace Go.Proofs.Ytlfckoeolcnniaa.Net
open Go.RowKit Go.Proofs.YtlfckoeolcnniaaW.PrintWords Go.Proofs.YtlfckoeolcnniaaW.PrintLast Go.Proofs.YtlfckoeolcnniaaW.PrintMore
set_option linter.unusedVariables false
set_option linter.unusedSimpArgs false
/-- records one behind the other -/
def cat : List (List Int) → List Int
  | [] => []
  | x :: r => frm x ++ cat r
theorem cat_app : ∀ (l r : List (List Int)), cat (l ++ r) = cat l ++ cat r
  | [], r => rfl
  | x :: l, r => by rw [List.cons_append, cat, cat, cat_app l r, List.append_assoc]
def pos (P : List (List Int)) (k : Nat) : Nat := (cat (P.take k)).length
theorem pos_succ (P : List (List Int)) (k : Nat) (h : k < P.length) : pos P (k + 1) = pos P k + 8 + (P[k]).length := by
  unfold pos
  rw [List.take_succ_eq_append_getElem h, cat_app, List.length_append]
  show _ + (frm P[k] ++ []).length = _
  rw [List.append_nil, frm_len]
  omega
theorem pos_app (P Q : List (List Int)) (k : Nat) (h : k ≤ P.length) : pos (P ++ Q) k = pos P k := by unfold pos; rw [List.take_append_of_le_length h]
theorem pos_mono (P : List (List Int)) : ∀ (d k : Nat), k + d ≤ P.length → pos P k ≤ pos P (k + d)
  | 0, k, _ => Nat.le_refl _
  | d + 1, k, h => by
    have h1 := pos_mono P d k (by omega)
    have h2 := pos_succ P (k + d) (by omega)
    rw [← Nat.add_assoc]
    omega
theorem pos_all (P : List (List Int)) : pos P P.length = (cat P).length := by unfold pos; rw [List.take_length]
/-- how many stand ahead of the cut -/
theorem cut_at (P : List (List Int)) (cut : Nat) : ∀ k, k ≤ P.length → ∃ m, m ≤ k ∧ pos P m ≤ cut ∧ (m < k → cut < pos P (m + 1))
  | 0, _ => ⟨0, Nat.le_refl _, by simp [pos, cat], fun h => by omega⟩
  | k + 1, h => by
    obtain ⟨m, h1, h2, h3⟩ := cut_at P cut k (by omega)
    rcases Nat.lt_or_ge m k with hm | hm
    · exact ⟨m, by omega, h2, fun _ => h3 hm⟩
    · obtain rfl : m = k := by omega
      rcases Nat.lt_or_ge cut (pos P (m + 1)) with hc | hc
      · exact ⟨m, by omega, h2, fun _ => hc⟩
      · exact ⟨m + 1, Nat.le_refl _, hc, fun h => by omega⟩
theorem cat_drop (P : List (List Int)) (k : Nat) (h : k < P.length) : (cat P).drop (pos P k) = frm P[k] ++ cat (P.drop (k + 1)) := by
  have e : P = P.take k ++ P[k] :: P.drop (k + 1) := by rw [List.getElem_cons_drop, List.take_append_drop]
  have e2 : cat P = cat (P.take k) ++ (frm P[k] ++ cat (P.drop (k + 1))) := by
    conv => lhs; rw [e]
    rw [cat_app]
    rfl
  rw [e2]
  exact List.drop_left' rfl
theorem head_of {bs x rest : List Int} {a t : Nat} (h : bs.drop a = (frm x ++ rest).take t) (ht : 8 ≤ t) (hx : x.length ≤ 4194304) (hb : bytes x) :
    un ((bs.drop a).take 4) = x.length ∧ un ((bs.drop (a + 4)).take 4) = crc (le x.length 4 ++ x) ∧ (bs.drop a).take 4 = le x.length 4 := by
  have e1 : (bs.drop a).take 4 = le x.length 4 := by
    rw [h, List.take_take, Nat.min_eq_left (by omega)]
    unfold frm
    rw [List.append_assoc, List.append_assoc]
    exact List.take_left' (le_len _ _)
  have e2 : (bs.drop (a + 4)).take 4 = le (crc (le x.length 4 ++ x)) 4 := by
    rw [← List.drop_drop, h, List.drop_take, List.take_take, Nat.min_eq_left (by omega)]
    unfold frm
    rw [List.append_assoc, List.append_assoc, List.drop_left' (le_len _ _)]
    exact List.take_left' (le_len _ _)
  exact ⟨by rw [e1]; exact un_le _ (by omega), by rw [e2]; exact un_le _ (crc_lt _ (bytes_app (le_bytes _ _) hb)), e1⟩
theorem rec_whole {bs x rest : List Int} {a t : Nat} (h : bs.drop a = (frm x ++ rest).take t) (ht : 8 + x.length ≤ t) (hl : a + t ≤ bs.length) (hx : x.length ≤ 4194304) (hb : bytes x) : rec1 bs a = some x := by
  obtain ⟨h1, h2, h3⟩ := head_of h (by omega) hx hb
  have e3 : (bs.drop (a + 8)).take x.length = x := by
    rw [← List.drop_drop, h, List.drop_take, List.take_take, Nat.min_eq_left (by omega)]
    unfold frm
    rw [List.append_assoc, List.append_assoc, ← List.append_assoc (le x.length 4), List.drop_left' (by rw [List.length_append, le_len, le_len])]
    exact List.take_left' rfl
  have := rec1_some (bs := bs) (a := a) (n := x.length) (by omega) h1 hx (by omega) (by rw [h3, e3, h2])
  rw [this, e3]
theorem rec_part {bs x rest : List Int} {a t : Nat} (h : bs.drop a = (frm x ++ rest).take t) (ht : t < 8 + x.length) (hl : bs.length = a + t) (hx : x.length ≤ 4194304) (hb : bytes x) : rec1 bs a = none := by
  rcases Nat.lt_or_ge t 8 with h8 | h8
  · exact rec1_short (by omega)
  · exact rec1_cut (by rw [(head_of h h8 hx hb).1]; omega)
/-- the records of what is cut -/
theorem cut_scanned (P : List (List Int)) (hP : ∀ x ∈ P, bytes x ∧ x.length ≤ 4194304) (cut m : Nat) (hc : cut ≤ (cat P).length) (hm : m ≤ P.length) (h1 : pos P m ≤ cut) (h2 : m < P.length → cut < pos P (m + 1)) : Scanned ((cat P).take cut) (P.take m) (pos P m) := by
  have hl : ((cat P).take cut).length = cut := by rw [List.length_take]; omega
  have hd : ∀ k, (hk : k < P.length) → pos P k ≤ cut → ((cat P).take cut).drop (pos P k) = (frm P[k] ++ cat (P.drop (k + 1))).take (cut - pos P k) := fun k hk _ => by
    rw [List.drop_take, cat_drop P k hk]
  have key : ∀ k, k ≤ m → itr ((cat P).take cut) k = some (P.take k, pos P k) := by
    intro k
    induction k with
    | zero => intro _; simp [itr, pos, cat]
    | succ k ih =>
      intro hk
      have hkP : k < P.length := by omega
      have hps := pos_succ P k hkP
      have hmono := pos_mono P (m - (k + 1)) (k + 1) (by omega)
      rw [show k + 1 + (m - (k + 1)) = m by omega] at hmono
      obtain ⟨b1, b2⟩ := hP P[k] (List.getElem_mem hkP)
      rw [itr, ih (by omega), Option.bind_some]
      have hr := rec_whole (hd k hkP (by omega)) (by omega) (by omega) b2 b1
      simp only [hr, Option.map_some]
      rw [List.take_succ_eq_append_getElem hkP, hps]
  constructor
  · rw [List.length_take, Nat.min_eq_left hm]
    exact key m (Nat.le_refl _)
  · rcases Nat.lt_or_ge m P.length with h | h
    · have hps := pos_succ P m h
      have := h2 h
      obtain ⟨b1, b2⟩ := hP P[m] (List.getElem_mem h)
      exact rec_part (hd m h h1) (by omega) (by omega) b2 b1
    · obtain rfl : m = P.length := by omega
      have := pos_all P
      exact rec1_short (by omega)
end Go.Proofs.Ytlfckoeolcnniaa.Net
