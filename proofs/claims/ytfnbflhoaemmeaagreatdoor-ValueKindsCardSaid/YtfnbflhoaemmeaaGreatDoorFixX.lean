/- The reference's Print, told as what fixnum.Print prints. Condition: an int64. -/
import Derived.Test.YtfnbflhoaemmeaaGreatDoorFixN
import Derived.Test.YtfnbflhoaemmeaaGreatDoorEFix3
namespace Go.Proofs.YtfnbflhoaemmeaaGreatDoor.EFix
open Go.RowKit Go.Lib Go.Proofs.YtfnbflhoaemmeaaGreatDoorW.PrintWords Go.Proofs.YtfnbflhoaemmeaaGreatDoorW.PrintLast Go.Proofs.YtfnbflhoaemmeaaGreatDoor.Ext
theorem son_one (n : Int) : by_ (strOfNums [n]) = [UInt8.ofNat n.toNat] := rfl
theorem son_size (n : Int) : (strOfNums [n]).size = 1 := rfl
theorem tl_by (x : ByteArray) : x.toList = by_ x := to_by x
theorem dec_one (k u : Nat) (x : ByteArray) (hu : u < 18446744073709551616) (hx : x.size ≤ 1000) (h : 0 < u ∨ x.toList = []) :
    ∃ y : ByteArray, counterpaneref1_dec.l0 (k + 1) (u : Int) x = counterpaneref1_dec.l0 k ((u / 10 : Nat) : Int) y ∧ by_ y = UInt8.ofNat (48 + u % 10) :: by_ x ∧ y.size = x.size + 1 := by
  have e1 : Int.tmod (u : Int) 10 = ((u % 10 : Nat) : Int) := by rw [Int.tmod_eq_emod_of_nonneg (by omega)]; omega
  have e2 : IntKind.u64.wrap (Int.tdiv (u : Int) 10) = ((u / 10 : Nat) : Int) := by rw [Int.tdiv_eq_ediv_of_nonneg (by omega), wrap_u64]; omega
  have e3 : IntKind.u64.wrap (48 + ((u % 10 : Nat) : Int)) % 256 = ((48 + u % 10 : Nat) : Int) := by rw [wrap_u64]; omega
  have hb : by_ (strOfNums [((48 + u % 10 : Nat) : Int)] ++ x) = UInt8.ofNat (48 + u % 10) :: by_ x := by rw [by_app, son_one, Int.toNat_natCast]; rfl
  have hsz : (strOfNums [((48 + u % 10 : Nat) : Int)] ++ x).size = x.size + 1 := by rw [ByteArray.size_append, son_size]; omega
  refine ⟨_, ?_, hb, hsz⟩
  rw [counterpaneref1_dec.l0, e1, e2, e3]
  have es := son_size ((48 + u % 10 : Nat) : Int)
  by_cases c : 0 < u
  · rw [if_pos (by omega), Option.bind_some, if_pos (by rw [es]; omega)]
  · rw [if_neg (by omega), if_pos (by rcases h with h | h; exact absurd h c; exact h), Option.bind_some, if_pos (by rw [es]; omega)]
theorem dec_end (k : Nat) (x : ByteArray) (h : by_ x ≠ []) : counterpaneref1_dec.l0 (k + 1) ((0 : Nat) : Int) x = some x := by
  rw [counterpaneref1_dec.l0, if_neg (by omega), if_neg (by rw [tl_by]; exact h)]
theorem dec_l (n : Nat) : ∀ (u k : Nat) (x : ByteArray), u < 10 ^ n → 0 < u → u < 18446744073709551616 → n + 1 ≤ k → x.size + n ≤ 1000 → ∃ r, counterpaneref1_dec.l0 k (u : Int) x = some r ∧ by_ r = decDigits u ++ by_ x := by
  induction n with
  | zero => intro u k x h h0; simp at h; omega
  | succ n ih =>
    intro u k x h h0 hu hk hx
    obtain ⟨k, rfl⟩ : ∃ m, k = m + 1 := ⟨k - 1, by omega⟩
    obtain ⟨y, h1, h2, h3⟩ := dec_one k u x hu (by omega) (.inl h0)
    rw [h1, decDigits]
    by_cases c : u < 10
    · rw [dif_pos c, show u / 10 = 0 by omega]
      obtain ⟨k, rfl⟩ : ∃ m, k = m + 1 := ⟨k - 1, by omega⟩
      refine ⟨y, dec_end k y (by rw [h2]; simp), ?_⟩
      rw [h2, show u % 10 = u by omega]
      rfl
    · rw [dif_neg c]
      obtain ⟨r, r1, r2⟩ := ih (u / 10) k y (by rw [Nat.pow_succ] at h; omega) (by omega) (by omega) (by omega) (by omega)
      exact ⟨r, r1, by rw [r2, h2, List.append_assoc]; rfl⟩
theorem dec_f (u k : Nat) (hu : u < 18446744073709551616) (hk : 22 ≤ k) : ∃ r, counterpaneref1_dec.f k (u : Int) = some r ∧ by_ r = decDigits u := by
  unfold counterpaneref1_dec.f
  have hn : by_ (⟨#[]⟩ : ByteArray) = [] := rfl
  have hz : (⟨#[]⟩ : ByteArray).size = 0 := rfl
  by_cases c : 0 < u
  · obtain ⟨r, h1, h2⟩ := dec_l 20 u k ⟨#[]⟩ (by omega) c hu (by omega) (by omega)
    exact ⟨r, h1, by rw [h2, hn, List.append_nil]⟩
  · obtain rfl : u = 0 := by omega
    obtain ⟨k, rfl⟩ : ∃ m, k = m + 2 := ⟨k - 2, by omega⟩
    obtain ⟨y, h1, h2, _⟩ := dec_one (k + 1) 0 ⟨#[]⟩ (by decide) (by omega) (.inr (by rw [tl_by]; rfl))
    refine ⟨y, ?_, ?_⟩
    · rw [h1]
      exact dec_end k y (by rw [h2]; simp)
    · rw [h2, hn, decDigits, dif_pos (by decide)]
theorem ref_abs_f (a : Int) (h0 : -9223372036854775808 ≤ a) (h1 : a ≤ 9223372036854775807) : counterpaneref1_abs.f a = some (a.natAbs : Int) := by
  unfold counterpaneref1_abs.f
  by_cases c : a < 0
  · rw [if_pos c, wr (a + 1) (by omega) (by omega), wr (-(a + 1)) (by omega) (by omega), wraps_u64 (-(a + 1)) (by omega) (by omega), wraps_u64 (-(a + 1) + 1) (by omega) (by omega)]
    congr 1
    omega
  · rw [if_neg c, wraps_u64 a (by omega) (by omega)]
    congr 1
    omega
theorem rtrimP_l (a : Int) (s : ByteArray) (hs : s.size ≤ 1000) (n : Nat) : ∀ (k : Nat) (x : ByteArray), x.size = n → n ≤ 1000 → n + 1 ≤ k → rtrim (by_ x) ≠ [] → ∃ r, counterpaneref1_Print.l0 k a s x = some r ∧ by_ r = (if a < 0 then [45] else []) ++ (by_ s ++ 46 :: rtrim (by_ x)) := by
  induction n with
  | zero =>
    intro k x hx _ hk hne
    have hl := by_len x
    have : by_ x = [] := List.length_eq_zero_iff.mp (by omega)
    rw [this] at hne
    exact absurd rfl hne
  | succ n ih =>
    intro k x hx hm hk hne
    obtain ⟨k, rfl⟩ : ∃ m, k = m + 1 := ⟨k - 1, by omega⟩
    have hl := by_len x
    have hn : n < (by_ x).length := by omega
    have ew : wrap64 ((x.size : Int) - 1) = (n : Int) := by rw [wr _ (by omega) (by omega)]; omega
    have hsp : by_ x = (by_ x).take n ++ [(by_ x)[n]] := by
      rw [List.take_append_getElem hn, List.take_of_length_le (by omega)]
    rw [counterpaneref1_Print.l0, ew, if_pos (by omega), if_pos (by omega), bt_by x n hn]
    have ht := by_take x n
    have hxs : (x.extract 0 n).size = n := by rw [← by_len, ht]; simp; omega
    have hr : rtrim (by_ x) = if (by_ x)[n] = 48 then rtrim ((by_ x).take n) else (by_ x).take n ++ [(by_ x)[n]] := by
      rw [← rtrim_snoc, ← hsp]
    rw [hr] at hne ⊢
    generalize (by_ x)[n] = c at hsp hne
    by_cases h : c = 48
    · subst h
      rw [if_pos rfl] at hne ⊢
      rw [if_pos (show (((48 : UInt8).toNat : Nat) : Int) = 48 from rfl), if_pos (by omega)]
      obtain ⟨r, h1, h2⟩ := ih k (x.extract 0 n) hxs (by omega) (by omega) (by rw [ht]; exact hne)
      exact ⟨r, h1, by rw [h2, ht]⟩
    · have hc : ¬ ((c.toNat : Int) = 48) := fun h' => h (UInt8.toNat_inj.mp (by rw [show (48 : UInt8).toNat = 48 from rfl]; omega))
      have z1 : ((⟨#[46]⟩ : ByteArray) ++ x).size = 1 + x.size := by rw [ByteArray.size_append]; rfl
      have z2 : (s ++ ((⟨#[46]⟩ : ByteArray) ++ x)).size = s.size + (1 + x.size) := by rw [ByteArray.size_append, z1]
      have b1 : by_ ((⟨#[46]⟩ : ByteArray) ++ x) = 46 :: by_ x := by rw [by_app]; rfl
      rw [if_neg hc, if_neg h, if_pos (by omega), if_pos (by rw [z1]; omega)]
      by_cases ca : a < 0
      · rw [if_pos ca, if_pos (by rw [z2]; omega), if_pos ca]
        exact ⟨_, rfl, by rw [by_app, by_app, b1, ← hsp]; rfl⟩
      · rw [if_neg ca, if_neg ca]
        exact ⟨_, rfl, by rw [by_app, b1, ← hsp]; rfl⟩
theorem refPrint_f (a : Int) (h0 : -9223372036854775808 ≤ a) (h1 : a ≤ 9223372036854775807) : ∃ r, counterpaneref1_Print.f 30 a = some r ∧ by_ r = printS a := by
  unfold counterpaneref1_Print.f printS
  rw [ref_abs_f a h0 h1, Option.bind_some]
  obtain ⟨u, hu⟩ : ∃ u, a.natAbs = u := ⟨_, rfl⟩
  have hub : u ≤ 9223372036854775808 := by omega
  rw [hu]
  have e1 : IntKind.u64.wrap (Int.tdiv (u : Int) 10000) = ((u / 10000 : Nat) : Int) := by
    rw [Int.tdiv_eq_ediv_of_nonneg (by omega), wrap_u64]; omega
  have e2 : Int.tmod (u : Int) 10000 = ((u % 10000 : Nat) : Int) := by
    rw [Int.tmod_eq_emod_of_nonneg (by omega)]; omega
  have e3 : IntKind.u64.wrap (10000 + ((u % 10000 : Nat) : Int)) = ((10000 + u % 10000 : Nat) : Int) := by rw [wrap_u64]; omega
  rw [e1, e2, e3]
  obtain ⟨A, a1, a2⟩ := dec_f (u / 10000) 30 (by omega) (by omega)
  have lA := by_len A
  have l1 := dec_len20 (u / 10000) (by omega)
  rw [a2] at lA
  rw [a1, Option.bind_some]
  by_cases c : 0 < u % 10000
  · rw [if_pos (show ((u % 10000 : Nat) : Int) > 0 by omega), if_pos c]
    obtain ⟨B, b1, b2⟩ := dec_f (10000 + u % 10000) 30 (by omega) (by omega)
    have lB := by_len B
    have l2 := dec_len20 (10000 + u % 10000) (by omega)
    rw [b2] at lB
    obtain ⟨f1, f2, f3⟩ := four (u % 10000) (by omega)
    rw [b1, Option.bind_some, if_pos (by simp only [List.length_drop] at f2; omega)]
    have hd := by_drop B 1
    rw [b2] at hd
    have lD := by_len (B.extract 1 B.size)
    rw [hd, f2] at lD
    obtain ⟨r, r1, r2⟩ := rtrimP_l a A (by omega) 4 30 (B.extract 1 B.size) lD.symm (by omega) (by omega) (by
      rw [hd]
      intro e
      obtain ⟨k, hk⟩ := rtrim_split 4 _ f2
      rw [e, List.nil_append] at hk
      rw [hk] at f3
      have := dval_zeros k 0
      omega)
    refine ⟨r, r1, ?_⟩
    rw [r2, a2, hd]
  · rw [if_neg (show ¬ ((u % 10000 : Nat) : Int) > 0 by omega), if_neg c, List.append_nil]
    by_cases ca : a < 0
    · rw [if_pos ca, if_pos (by omega), if_pos ca]
      exact ⟨_, rfl, by rw [by_app, a2]; rfl⟩
    · rw [if_neg ca, if_neg ca]
      exact ⟨_, rfl, by rw [a2]; rfl⟩
end Go.Proofs.YtfnbflhoaemmeaaGreatDoor.EFix
