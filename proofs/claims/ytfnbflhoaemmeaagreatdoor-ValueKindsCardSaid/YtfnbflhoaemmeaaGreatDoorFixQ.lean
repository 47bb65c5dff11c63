/- fixnum's printed functions in plain words: Print, Mul, Div, Sum. Conditions: words; enough rounds. -/
import Derived.Test.YtfnbflhoaemmeaaGreatDoorFixP
namespace Go.Proofs.YtfnbflhoaemmeaaGreatDoor.EFix
open Go.RowKit Go.Lib Go.Proofs.YtfnbflhoaemmeaaGreatDoorW.PrintWords Go.Proofs.YtfnbflhoaemmeaaGreatDoorW.PrintLast Go.Proofs.YtfnbflhoaemmeaaGreatDoor.Ext Go.Proofs.YtfnbflhoaemmeaaGreatDoor.EFxA
theorem by_app (a b : ByteArray) : by_ (a ++ b) = by_ a ++ by_ b := by
  unfold by_
  simp
def rtrim (l : List UInt8) : List UInt8 := (l.reverse.dropWhile (· == 48)).reverse
theorem rtrim_snoc (y : List UInt8) (c : UInt8) : rtrim (y ++ [c]) = if c = 48 then rtrim y else y ++ [c] := by
  unfold rtrim
  rw [List.reverse_append]
  by_cases h : c = 48
  · subst h
    rw [if_pos rfl]
    rfl
  · rw [if_neg h]
    have : (c == 48) = false := beq_eq_false_iff_ne.mpr h
    simp [this]
theorem trim_l (n : Nat) : ∀ (k : Nat) (x : ByteArray), x.size = n → n ≤ 1000000 → n + 1 ≤ k → ∃ r, strings_trimRightByte.l0 k x 48 = some r ∧ by_ r = rtrim (by_ x) := by
  induction n with
  | zero =>
    intro k x hx _ hk
    obtain ⟨k, rfl⟩ : ∃ m, k = m + 1 := ⟨k - 1, by omega⟩
    refine ⟨x, by rw [strings_trimRightByte.l0, if_neg (by omega)], ?_⟩
    have hl := by_len x
    have : by_ x = [] := List.length_eq_zero_iff.mp (by omega)
    rw [this]
    rfl
  | succ n ih =>
    intro k x hx hm hk
    obtain ⟨k, rfl⟩ : ∃ m, k = m + 1 := ⟨k - 1, by omega⟩
    have hl := by_len x
    have hn : n < (by_ x).length := by omega
    have ew : wrap64 ((x.size : Int) - 1) = (n : Int) := by rw [wr _ (by omega) (by omega)]; omega
    have hs : by_ x = (by_ x).take n ++ [(by_ x)[n]] := by
      rw [List.take_append_getElem hn, List.take_of_length_le (by omega)]
    rw [strings_trimRightByte.l0, if_pos (by omega), ew, if_pos (by omega), if_pos (by omega), bt_by x n hn]
    have ht := by_take x n
    have hxs : (x.extract 0 n).size = n := by rw [← by_len, ht]; simp; omega
    have hr : rtrim (by_ x) = if (by_ x)[n] = 48 then rtrim ((by_ x).take n) else (by_ x).take n ++ [(by_ x)[n]] := by
      rw [← rtrim_snoc, ← hs]
    rw [hr]
    generalize (by_ x)[n] = c at hs
    by_cases h : c = 48
    · subst h
      rw [if_pos rfl, if_pos (show (((48 : UInt8).toNat : Nat) : Int) = 48 from rfl), if_pos (by omega)]
      obtain ⟨r, h1, h2⟩ := ih k (x.extract 0 n) hxs (by omega) (by omega)
      exact ⟨r, h1, by rw [h2, ht]⟩
    · have hc : ¬ ((c.toNat : Int) = 48) := fun h' => h (UInt8.toNat_inj.mp (by rw [show (48 : UInt8).toNat = 48 from rfl]; omega))
      rw [if_neg hc, if_neg h]
      exact ⟨x, rfl, hs⟩
theorem trim_f (x : ByteArray) (hx : x.size ≤ 1000000) : ∃ r, strings_TrimRight.f x ⟨#[48]⟩ = some r ∧ by_ r = rtrim (by_ x) := by
  unfold strings_TrimRight.f
  rw [if_pos (by rw [to_by]; rfl)]
  exact trim_l x.size (x.size + 1) x rfl hx (by omega)
theorem abs_f (a : Int) (h0 : -9223372036854775808 ≤ a) (h1 : a ≤ 9223372036854775807) : fixnum_abs.f a = some ((a.natAbs : Int), decide (a < 0)) := by
  unfold fixnum_abs.f
  by_cases c : a < 0
  · rw [if_pos c, decide_eq_true c, wrap_u64, wrap_u64]
    congr 2
    omega
  · rw [if_neg c, decide_eq_false c, wrap_u64]
    congr 2
    omega
theorem dec_len20 (u : Nat) (h : u < 18446744073709551616) : (decDigits u).length ≤ 20 := by
  have : ∀ m u : Nat, u < 10 ^ m → 1 ≤ m → (decDigits u).length ≤ m := by
    intro m
    induction m with
    | zero => intro u _ h; omega
    | succ m ih =>
      intro u hu _
      rw [decDigits]
      by_cases c : u < 10
      · rw [dif_pos c]; simp
      · rw [dif_neg c]
        have hm : 1 ≤ m := by
          cases m with
          | zero => simp at hu; omega
          | succ m => omega
        have := ih (u / 10) (by rw [Nat.pow_succ] at hu; omega) hm
        simp; omega
  exact this 20 u (Nat.lt_of_lt_of_le h (by decide)) (by omega)
theorem fmt_f (u : Nat) (h : u < 18446744073709551616) : strconv_FormatUint.f (u : Int) 10 = some ⟨(decDigits u).toArray⟩ := by
  unfold strconv_FormatUint.f
  rw [if_pos ⟨rfl, by omega, by omega⟩, Int.toNat_natCast]
def printS (a : Int) : List UInt8 :=
  (if a < 0 then [45] else []) ++ (decDigits (a.natAbs / 10000) ++ (if 0 < a.natAbs % 10000 then 46 :: rtrim ((decDigits (10000 + a.natAbs % 10000)).drop 1) else []))
theorem rtrim_len (l : List UInt8) : (rtrim l).length ≤ l.length := by
  unfold rtrim
  rw [List.length_reverse]
  have := (List.dropWhile_sublist (fun x : UInt8 => x == 48) (l := l.reverse)).length_le
  simpa using this
theorem print_f (a : Int) (h0 : -9223372036854775808 ≤ a) (h1 : a ≤ 9223372036854775807) : ∃ r, fixnum_Print.f a = some r ∧ by_ r = printS a := by
  unfold fixnum_Print.f printS
  rw [abs_f a h0 h1, Option.bind_some]
  obtain ⟨u, hu⟩ : ∃ u, a.natAbs = u := ⟨_, rfl⟩
  have hub : u ≤ 9223372036854775808 := by omega
  rw [hu]
  have e1 : IntKind.u64.wrap (Int.tdiv (u : Int) 10000) = ((u / 10000 : Nat) : Int) := by
    rw [Int.tdiv_eq_ediv_of_nonneg (by omega), wrap_u64]; omega
  have e2 : Int.tmod (u : Int) 10000 = ((u % 10000 : Nat) : Int) := by
    rw [Int.tmod_eq_emod_of_nonneg (by omega)]; omega
  have e3 : IntKind.u64.wrap (10000 + ((u % 10000 : Nat) : Int)) = ((10000 + u % 10000 : Nat) : Int) := by rw [wrap_u64]; omega
  rw [e1, e2, e3, fmt_f _ (by omega), fmt_f _ (by omega)]
  have l1 := dec_len20 (u / 10000) (by omega)
  have l2 := dec_len20 (10000 + u % 10000) (by omega)
  have z0 : (⟨#[46]⟩ : ByteArray).size = 1 := rfl
  have z1 : (⟨(decDigits (u / 10000)).toArray⟩ : ByteArray).size ≤ 20 := by rw [mk_size]; exact l1
  obtain ⟨A, hA⟩ : ∃ A : ByteArray, (⟨(decDigits (u / 10000)).toArray⟩ : ByteArray) = A := ⟨_, rfl⟩
  have bA : by_ A = decDigits (u / 10000) := by rw [← hA]; rfl
  rw [hA] at z1 ⊢
  rw [Option.bind_some]
  by_cases c : 0 < u % 10000
  · rw [if_pos (show ((u % 10000 : Nat) : Int) > 0 by omega), if_pos c]
    obtain ⟨B, hB⟩ : ∃ B : ByteArray, (⟨(decDigits (10000 + u % 10000)).toArray⟩ : ByteArray) = B := ⟨_, rfl⟩
    have bB : by_ B = decDigits (10000 + u % 10000) := by rw [← hB]; rfl
    rw [hB, Option.bind_some]
    have lB := by_len B
    rw [bB] at lB
    have pB : 1 ≤ B.size := by
      rw [← lB, decDigits]
      rw [dif_neg (by omega)]
      simp
    rw [if_pos (by omega)]
    have hd := by_drop B 1
    have lE := by_len (B.extract 1 B.size)
    rw [hd, bB] at lE
    obtain ⟨r, h2, h3⟩ := trim_f (B.extract 1 B.size) (by rw [← lE]; simp; omega)
    rw [h2, Option.bind_some]
    rw [hd, bB] at h3
    have lr := by_len r
    have l4 := rtrim_len ((decDigits (10000 + u % 10000)).drop 1)
    rw [← h3] at l4
    have l5 : ((decDigits (10000 + u % 10000)).drop 1).length ≤ 20 := by simp; omega
    have sz : ((⟨#[46]⟩ : ByteArray) ++ r).size = 1 + r.size := by rw [ByteArray.size_append, z0]
    have sA : (A ++ ((⟨#[46]⟩ : ByteArray) ++ r)).size = A.size + (1 + r.size) := by rw [ByteArray.size_append, sz]
    have bb : by_ ((⟨#[46]⟩ : ByteArray) ++ r) = 46 :: by_ r := by rw [by_app]; rfl
    rw [if_pos (by omega), if_pos (by rw [sz]; omega)]
    by_cases g : a < 0
    · rw [decide_eq_true g, if_pos rfl, if_pos (by rw [sA]; omega), if_pos g]
      exact ⟨_, rfl, by rw [by_app, by_app, bb, bA, h3]; rfl⟩
    · rw [decide_eq_false g, if_neg Bool.false_ne_true, if_neg g]
      exact ⟨_, rfl, by rw [by_app, bb, bA, h3]; rfl⟩
  · rw [if_neg (show ¬ ((u % 10000 : Nat) : Int) > 0 by omega), if_neg c]
    by_cases g : a < 0
    · rw [decide_eq_true g, if_pos rfl, if_pos (by omega), if_pos g]
      exact ⟨_, rfl, by rw [by_app, bA]; simp; rfl⟩
    · rw [decide_eq_false g, if_neg Bool.false_ne_true, if_neg g]
      exact ⟨_, rfl, by rw [bA]; simp⟩
end Go.Proofs.YtfnbflhoaemmeaaGreatDoor.EFix
