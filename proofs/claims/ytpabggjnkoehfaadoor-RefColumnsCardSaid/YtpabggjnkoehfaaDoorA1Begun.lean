/- What the laws on references begin with (begun answers true), Short and same. Condition: enough rounds. -/
import Derived.Test.YtpabggjnkoehfaaDoorA1Back
namespace Go.Proofs.YtpabggjnkoehfaaDoor.ERef
open Go.RowKit Go.Lib Go.Proofs.YtpabggjnkoehfaaDoorW.PrintWords Go.Proofs.YtpabggjnkoehfaaDoorW.PrintLast Go.Proofs.YtpabggjnkoehfaaDoor.Ext Go.Proofs.YtpabggjnkoehfaaDoor.A1
theorem tl (x : ByteArray) : x.toList = by_ x := by rw [ByteArray.toList_eq]; rfl
theorem up {α : Type} (f : Nat → Option α) (hm : ∀ k, LeO (f k) (f (k + 1))) (n : Nat) (r : α) (h : f n = some r) : ∀ d, f (n + d) = some r
  | 0 => h
  | d + 1 => hm (n + d) r (up f hm n r h d)
theorem colname26 (k : Nat) (hk : 30 ≤ k) : a1_ColName.f k 26 = some ⟨#[65, 65]⟩ := by
  obtain ⟨k, rfl⟩ : ∃ m, k = 30 + m := ⟨k - 30, by omega⟩
  exact up (fun k => a1_ColName.f k 26) (fun k => a1_ColName.mono 26 k) 30 _ (by kernel_rfl) k
theorem colname27 (k : Nat) (hk : 30 ≤ k) : a1_ColName.f k 27 = some ⟨#[65, 66]⟩ := by
  obtain ⟨k, rfl⟩ : ∃ m, k = 30 + m := ⟨k - 30, by omega⟩
  exact up (fun k => a1_ColName.f k 27) (fun k => a1_ColName.mono 27 k) 30 _ (by kernel_rfl) k
theorem dd (n : Nat) (h : n < 10) : decDigits n = [UInt8.ofNat (48 + n)] := by rw [decDigits, dif_pos h]
theorem ref_lit : refS [99, 49, 110, 50, 33, 36, 65, 66, 55] = (⟨#[99, 49, 110, 50]⟩, 6, 27, false, true, true) := by
  have h : printS ⟨#[99, 49, 110, 50]⟩ 6 ⟨#[65, 66]⟩ false true = [99, 49, 110, 50, 33, 36, 65, 66, 55] := by
    have : itoa (6 + 1) = [55] := dd 7 (by omega)
    unfold printS
    rw [this]
    rfl
  rw [← h]
  refine back _ 6 27 ⟨#[65, 66]⟩ false true ?_ rfl ?_ (by decide)
  · refine ⟨.inr ?_, by omega, by omega, by omega, by omega⟩
    decide
  · intro d hd
    have : d ∈ ([65, 66] : List UInt8) := hd
    simp at this
    rcases this with rfl | rfl <;> (unfold isAZ; decide)
theorem begun_f (k : Nat) (hk : 100 ≤ k) : counterpanelaw5_begun.f k = some true := by
  unfold counterpanelaw5_begun.f
  have z : (⟨#[99, 49, 110, 50, 33, 36, 65, 66, 55]⟩ : ByteArray).size = 9 := rfl
  have e1 : a1_Parse.f k (⟨#[99, 49, 110, 50, 33, 36, 65, 66, 55]⟩ : ByteArray) = some (⟨#[99, 49, 110, 50]⟩, 6, 27, false, true, true) := by
    rw [parse_f k _ (by rw [z]; omega) (by rw [z]; omega)]
    exact congrArg some ref_lit
  obtain ⟨col, p, hc, hp, _, hb⟩ := print_f k (by omega) ⟨#[99, 49, 110, 50]⟩ 6 27 false true (by decide)
  rw [colname27 k (by omega)] at hc
  injection hc with hc
  subst hc
  have hm : mayS ⟨#[99, 49, 110, 50]⟩ 6 27 := ⟨.inr (by decide), by omega, by omega, by omega, by omega⟩
  rw [if_pos hm] at hb
  have hlit : printS ⟨#[99, 49, 110, 50]⟩ 6 ⟨#[65, 66]⟩ false true = [99, 49, 110, 50, 33, 36, 65, 66, 55] := by
    have : itoa (6 + 1) = [55] := dd 7 (by omega)
    unfold printS
    rw [this]
    rfl
  rw [hlit] at hb
  have e2 : a1_Col.f k (⟨#[65, 65]⟩ : ByteArray) = some (26, true) := by
    rw [col_f k (by omega)]
    rfl
  rw [e1, Option.bind_some, e2, Option.bind_some]
  dsimp only
  rw [if_pos rfl, tl, if_pos (show by_ (⟨#[99, 49, 110, 50]⟩ : ByteArray) = [99, 49, 110, 50] from rfl), if_pos rfl, if_pos rfl, if_pos rfl, if_neg (by simp), hp, Option.bind_some, tl, hb, if_pos rfl, if_pos rfl, if_pos rfl, colname26 k (by omega), Option.bind_some, tl, if_pos (show by_ (⟨#[65, 65]⟩ : ByteArray) = [65, 65] from rfl), id_f _ (by decide), Option.bind_some, if_pos (by decide), owner_f _ (by decide), Option.bind_some]
  congr 1
theorem short_f (a : ByteArray) (n : Nat) : ∃ b, counterpanelaw5_Short.f a n = some b ∧ b.size ≤ n := by
  unfold counterpanelaw5_Short.f
  by_cases h : (a.size : Int) > n
  · rw [if_pos h, if_pos (by omega), if_pos (by omega), Int.toNat_natCast]
    refine ⟨_, rfl, ?_⟩
    have := by_len (a.extract 0 n)
    rw [by_take] at this
    rw [← this, List.length_take]
    omega
  · rw [if_neg h]
    exact ⟨a, rfl, by omega⟩
theorem same_f (x : ByteArray) (r c : Int) (ra ca : Bool) : counterpanelaw5_same.f x r c ra ca x r c ra ca = some true := by
  unfold counterpanelaw5_same.f
  rw [if_pos rfl, if_pos rfl, if_pos rfl, if_pos (by simp)]
  congr 1
  simp
end Go.Proofs.YtpabggjnkoehfaaDoor.ERef
