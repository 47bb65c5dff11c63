/- fixnum.Sum in plain words; what the laws begin with; the laws FixCut, FixForms, FixRing: the printed functions answer true. -/
import Derived.Test.YtkcncfikejepdaaDoorFixQ
import Derived.Test.YtkcncfikejepdaaDoorEFix2
namespace Go.Proofs.YtkcncfikejepdaaDoor.EFix
open Go.RowKit Go.Lib Go.Proofs.YtkcncfikejepdaaDoorW.PrintWords Go.Proofs.YtkcncfikejepdaaDoorW.PrintLast Go.Proofs.YtkcncfikejepdaaDoor.Ext Go.Proofs.YtkcncfikejepdaaDoor.EFxA
theorem add64_f (x y c : Int) (h : (0 ≤ x ∧ x < 18446744073709551616) ∧ (0 ≤ y ∧ y < 18446744073709551616) ∧ 0 ≤ c ∧ c ≤ 1) : add64.f x y c = some ((x + y + c) % 18446744073709551616, (x + y + c) / 18446744073709551616) := by
  unfold add64.f
  rw [if_pos h]
def sumS (T : Int) : Int × Bool := if -9223372036854775808 ≤ T ∧ T ≤ 9223372036854775807 then (T, true) else (0, false)
theorem sum_l (l : List Int) (hl : l.length ≤ 1000000) (hw : ∀ a, a ∈ l → -9223372036854775808 ≤ a ∧ a ≤ 9223372036854775807) (d : Nat) : ∀ (k j : Nat) (x4 x5 S : Int), j + d = l.length → d + 1 ≤ k →
    (0 ≤ x4 ∧ x4 < 18446744073709551616) → (0 ≤ x5 ∧ x5 < 18446744073709551616) → (x4 * 18446744073709551616 + x5) % 340282366920938463463374607431768211456 = S % 340282366920938463463374607431768211456 →
    -((j : Int) * 9223372036854775808) ≤ S → S ≤ (j : Int) * 9223372036854775808 →
    fixnum_Sum.l0 k x4 x5 l (l.length : Int) (j : Int) = some (sumS (S + (l.drop j).sum)) := by
  induction d with
  | zero =>
    intro k j x4 x5 S hj hk h4 h5 hm s0 s1
    obtain ⟨k, rfl⟩ : ∃ m, k = m + 1 := ⟨k - 1, by omega⟩
    rw [fixnum_Sum.l0, if_neg (by omega), List.drop_of_length_le (by omega), List.sum_nil, Int.add_zero]
    have ew : IntKind.u64.wrap (wrap64 x5 / 9223372036854775808) = if x5 < 9223372036854775808 then 0 else 18446744073709551615 := by
      rw [wrap_u64]
      unfold wrap64
      split <;> omega
    rw [ew]
    unfold sumS
    have e5 : wrap64 x5 = if x5 < 9223372036854775808 then x5 else x5 - 18446744073709551616 := by
      unfold wrap64
      split <;> omega
    rw [e5]
    by_cases c : x5 < 9223372036854775808
    · rw [if_pos c, if_pos c]
      by_cases c4 : x4 = 0
      · rw [if_pos c4, if_pos (by omega), show x5 = S by omega]
      · rw [if_neg c4, if_neg (by omega)]
    · rw [if_neg c, if_neg c]
      by_cases c4 : x4 = 18446744073709551615
      · rw [if_pos c4, if_pos (by omega), show x5 - 18446744073709551616 = S by omega]
      · rw [if_neg c4, if_neg (by omega)]
  | succ d ih =>
    intro k j x4 x5 S hj hk h4 h5 hm s0 s1
    obtain ⟨k, rfl⟩ : ∃ m, k = m + 1 := ⟨k - 1, by omega⟩
    have hjl : j < l.length := by omega
    have er : rd l (j : Int) = l[j] := by simp [rd, hjl]
    have ha := hw l[j] (List.getElem_mem hjl)
    rw [fixnum_Sum.l0, if_pos (by omega), if_pos (by omega), if_pos (by omega), er, List.drop_eq_getElem_cons hjl, List.sum_cons]
    generalize l[j] = a at ha
    have eA : IntKind.u64.wrap a = a % 18446744073709551616 := wrap_u64 a
    have eB : IntKind.u64.wrap (a / 9223372036854775808) = if a < 0 then 18446744073709551615 else 0 := by
      rw [wrap_u64]
      split <;> omega
    rw [eA, eB, add64_f _ _ _ (by omega), Option.bind_some]
    rw [add64_f _ _ _ (by refine ⟨h4, ?_, ?_, ?_⟩ <;> (try split) <;> omega), Option.bind_some]
    have := ih k (j + 1) ((x4 + (if a < 0 then 18446744073709551615 else 0) + (x5 + a % 18446744073709551616 + 0) / 18446744073709551616) % 18446744073709551616) ((x5 + a % 18446744073709551616 + 0) % 18446744073709551616) (S + a) (by omega) (by omega) (by omega) (by omega) (by split <;> omega) (by omega) (by omega)
    rw [wr _ (by omega) (by omega)]
    rw [show (((j + 1 : Nat) : Int)) = (j : Int) + 1 by omega] at this
    rw [this]
    congr 2
    omega
theorem sum_f (l : List Int) (hl : l.length ≤ 1000000) (hw : ∀ a, a ∈ l → -9223372036854775808 ≤ a ∧ a ≤ 9223372036854775807) (k : Nat) (hk : l.length + 1 ≤ k) : fixnum_Sum.f k l = some (sumS l.sum) := by
  unfold fixnum_Sum.f
  have := sum_l l hl hw l.length k 0 0 0 0 (by omega) hk (by omega) (by omega) (by omega) (by omega) (by omega)
  simpa using this
/-- digits, with a number of rounds (for closed evaluation) -/
def digs : Nat → Nat → List UInt8
  | 0, _ => []
  | k + 1, n => if n < 10 then [UInt8.ofNat (48 + n)] else digs k (n / 10) ++ [UInt8.ofNat (48 + n % 10)]
theorem digs_eq (k : Nat) : ∀ n, n < 10 ^ k → 1 ≤ k → decDigits n = digs k n := by
  induction k with
  | zero => intro n _ h; omega
  | succ k ih =>
    intro n hn _
    rw [decDigits, digs]
    by_cases c : n < 10
    · rw [dif_pos c, if_pos c]
    · rw [dif_neg c, if_neg c]
      have hk : 1 ≤ k := by
        cases k with
        | zero => simp at hn; omega
        | succ k => omega
      rw [ih (n / 10) (by rw [Nat.pow_succ] at hn; omega) hk]
def printC (a : Int) : List UInt8 :=
  (if a < 0 then [45] else []) ++ (digs 20 (a.natAbs / 10000) ++ (if 0 < a.natAbs % 10000 then 46 :: rtrim ((digs 20 (10000 + a.natAbs % 10000)).drop 1) else []))
theorem printC_eq (a : Int) (h : a.natAbs ≤ 9223372036854775808) : printS a = printC a := by
  unfold printS printC
  rw [digs_eq 20 _ (Nat.lt_of_le_of_lt (show a.natAbs / 10000 ≤ 922337203685477 by omega) (by decide)) (by omega), digs_eq 20 _ (Nat.lt_of_le_of_lt (show 10000 + a.natAbs % 10000 ≤ 20000 by omega) (by decide)) (by omega)]
theorem printC_f (a : Int) (h0 : -9223372036854775808 ≤ a) (h1 : a ≤ 9223372036854775807) : fixnum_Print.f a = some ⟨(printC a).toArray⟩ := by
  obtain ⟨r, h2, h3⟩ := print_f a h0 h1
  rw [h2, by_inj (s := r) (t := ⟨(printC a).toArray⟩) (by rw [h3, printC_eq a (by omega)]; rfl)]
theorem begun_f (k : Nat) (hk : 10 ≤ k) : counterpanelaw1_begun.f k = some true := by
  unfold counterpanelaw1_begun.f
  have e1 : parseS [45, 49, 50, 46, 53] = (-125000, true) := by decide +kernel
  have p1 : fixnum_Parse.f (⟨#[45, 49, 50, 46, 53]⟩ : ByteArray) = some (-125000, true) := by
    rw [parse_f _ (by decide)]; exact congrArg some e1
  have e2 : mulS (-125000) 20000 = (-250000, true) := by decide +kernel
  have e3 : divS 10000 30000 = (3333, true) := by decide +kernel
  have e4 : sumS ([1, 2, 3] : List Int).sum = (6, true) := by decide +kernel
  have e5 : printC (-250000) = [45, 50, 53] := by decide +kernel
  rw [p1, Option.bind_some, mul_f _ _ (by decide) (by decide) (by decide) (by decide), e2, Option.bind_some, div_f _ _ (by decide) (by decide) (by decide) (by decide) (.inr (.inl (by decide))), e3, Option.bind_some,
    sum_f _ (by decide) (by intro a ha; simp at ha; omega) k (by simp; omega), e4, Option.bind_some, if_pos rfl, if_pos rfl, if_pos rfl, printC_f _ (by decide) (by decide), e5, Option.bind_some, to_by, if_pos (show by_ (⟨[45, 50, 53].toArray⟩ : ByteArray) = [45, 50, 53] from rfl)]
  rfl
theorem nat_wf {a : Int} (h : (Lit.int .i64 a).wf = true) : -9223372036854775808 ≤ a ∧ a ≤ 9223372036854775807 := by
  simp [Lit.wf, IntKind.min, IntKind.max, IntKind.signed, IntKind.bits] at h
  omega
theorem mulS_comm (a b : Int) : mulS a b = mulS b a := by
  unfold mulS
  rw [Nat.mul_comm a.natAbs b.natAbs]
  have : (decide (a < 0) != decide (b < 0)) = (decide (b < 0) != decide (a < 0)) := by cases decide (a < 0) <;> cases decide (b < 0) <;> rfl
  rw [this]
theorem sgn_back (a : Int) (h0 : -9223372036854775808 ≤ a) (h1 : a ≤ 9223372036854775807) : sgnS a.natAbs (decide (a < 0)) = (a, true) := by
  unfold sgnS
  by_cases c : a < 0
  · rw [decide_eq_true c, if_pos rfl, if_pos (by omega), show -((a.natAbs : Nat) : Int) = a by omega]
  · rw [decide_eq_false c, if_neg Bool.false_ne_true, if_pos (by omega), show ((a.natAbs : Nat) : Int) = a by omega]
theorem fixRing_pure (a b : Int) (ha : -9223372036854775808 ≤ a ∧ a ≤ 9223372036854775807) (hb : -9223372036854775808 ≤ b ∧ b ≤ 9223372036854775807) : counterpanelaw1_FixRing.f 300 a b = some true := by
  have last : ∀ k, counterpanelaw1_FixRing.j1 (k + 1) a true false = some true := by
    intro k
    rw [counterpanelaw1_FixRing.j1, if_neg Bool.false_ne_true, mul_f a 10000 ha.1 ha.2 (by decide) (by decide), Option.bind_some, div_f a 10000 ha.1 ha.2 (by decide) (by decide) (.inr (.inr rfl)), Option.bind_some]
    have e1 : mulS a 10000 = (a, true) := by
      unfold mulS
      rw [show (10000 : Int).natAbs = 10000 from rfl, if_neg (by omega), Nat.mul_div_cancel _ (by decide), show decide ((10000 : Int) < 0) = false from rfl, Bool.bne_false]
      exact sgn_back a ha.1 ha.2
    have e2 : divS a 10000 = (a, true) := by
      unfold divS
      rw [show (10000 : Int).natAbs = 10000 from rfl, if_neg (by omega), Nat.mul_div_cancel _ (by decide), show decide ((10000 : Int) < 0) = false from rfl, Bool.bne_false]
      exact sgn_back a ha.1 ha.2
    rw [e1, e2, if_pos rfl, if_pos rfl, if_pos rfl, if_pos rfl]
    exact congrArg some (beq_self_eq_true a)
  have mid : ∀ k, counterpanelaw1_FixRing.j0 (k + 2) a b true = some true := by
    intro k
    rw [counterpanelaw1_FixRing.j0, mul_f a b ha.1 ha.2 hb.1 hb.2, Option.bind_some, mul_f b a hb.1 hb.2 ha.1 ha.2, Option.bind_some, mulS_comm b a, if_pos rfl, bne_self_eq_false]
    exact last k
  unfold counterpanelaw1_FixRing.f
  rw [begun_f 300 (by decide), Option.bind_some, if_pos rfl]
  unfold fixnum_Add.f
  rw [sum_f [a, b] (by simp) (by intro c hc; simp at hc; rcases hc with rfl | rfl <;> assumption) 300 (by simp), Option.bind_some]
  have es : ([a, b] : List Int).sum = a + b := by simp
  rw [es, Option.bind_some]
  unfold sumS
  by_cases c : -9223372036854775808 ≤ a + b ∧ a + b ≤ 9223372036854775807
  · rw [if_pos c, if_pos rfl]
    unfold fixnum_Sub.f
    have ew : wrap64 (a + b - b) = a := by rw [wr _ (by omega) (by omega)]; omega
    have e1 : (decide (b > 0) != decide (a < a + b)) = false := by
      by_cases g : b > 0
      · rw [decide_eq_true g, decide_eq_true (by omega)]; rfl
      · rw [decide_eq_false g, decide_eq_false (by omega)]; rfl
    have e2 : ((decide (b > 0)) != (decide ((wrap64 ((a + b, true).1 - b)) < (a + b, true).1))) = false := by
      show (decide (b > 0) != decide (wrap64 (a + b - b) < a + b)) = false
      rw [ew]; exact e1
    rw [e2, if_neg Bool.false_ne_true, Option.bind_some, if_pos rfl]
    rw [if_pos (show (wrap64 ((a + b, true).1 - b), true).1 = a from ew)]
    exact mid 298
  · rw [if_neg c, if_neg Bool.false_ne_true]
    exact mid 298
def goods : List ByteArray := [(⟨#[48]⟩ : ByteArray), (⟨#[45, 48]⟩ : ByteArray), (⟨#[49, 46, 53]⟩ : ByteArray), (⟨#[45, 49, 46, 48, 53]⟩ : ByteArray), (⟨#[48, 46, 48, 48, 48, 49]⟩ : ByteArray), (⟨#[57, 50, 50, 51, 51, 55, 50, 48, 51, 54, 56, 53, 52, 55, 55, 46, 53, 56, 48, 55]⟩ : ByteArray), (⟨#[45, 57, 50, 50, 51, 51, 55, 50, 48, 51, 54, 56, 53, 52, 55, 55, 46, 53, 56, 48, 56]⟩ : ByteArray), (⟨#[49, 48, 46, 50, 53, 48, 48]⟩ : ByteArray)]
def wants : List ByteArray := [(⟨#[48]⟩ : ByteArray), (⟨#[48]⟩ : ByteArray), (⟨#[49, 46, 53]⟩ : ByteArray), (⟨#[45, 49, 46, 48, 53]⟩ : ByteArray), (⟨#[48, 46, 48, 48, 48, 49]⟩ : ByteArray), (⟨#[57, 50, 50, 51, 51, 55, 50, 48, 51, 54, 56, 53, 52, 55, 55, 46, 53, 56, 48, 55]⟩ : ByteArray), (⟨#[45, 57, 50, 50, 51, 51, 55, 50, 48, 51, 54, 56, 53, 52, 55, 55, 46, 53, 56, 48, 56]⟩ : ByteArray), (⟨#[49, 48, 46, 50, 53]⟩ : ByteArray)]
def bads : List ByteArray := [(⟨#[]⟩ : ByteArray), (⟨#[45]⟩ : ByteArray), (⟨#[48, 49]⟩ : ByteArray), (⟨#[46, 53]⟩ : ByteArray), (⟨#[53, 46]⟩ : ByteArray), (⟨#[49, 46, 50, 51, 52, 53, 54]⟩ : ByteArray), (⟨#[43, 49]⟩ : ByteArray), (⟨#[49, 101, 51]⟩ : ByteArray), (⟨#[32, 49]⟩ : ByteArray), (⟨#[49, 32]⟩ : ByteArray), (⟨#[45, 45, 49]⟩ : ByteArray), (⟨#[57, 50, 50, 51, 51, 55, 50, 48, 51, 54, 56, 53, 52, 55, 55, 46, 53, 56, 48, 56]⟩ : ByteArray), (⟨#[45, 57, 50, 50, 51, 51, 55, 50, 48, 51, 54, 56, 53, 52, 55, 55, 46, 53, 56, 48, 57]⟩ : ByteArray), (⟨#[57, 57, 57, 57, 57, 57, 57, 57, 57, 57, 57, 57, 57, 57, 57, 57, 57, 57, 57, 57, 57, 57, 57]⟩ : ByteArray)]
theorem bad_l (bs : List ByteArray) (hl : bs.length ≤ 100) (hb : ∀ i, i < bs.length → (bs.getD i ByteArray.empty).size ≤ 1000 ∧ parseS (by_ (bs.getD i ByteArray.empty)) = (0, false)) (d : Nat) :
    ∀ k j : Nat, j + d = bs.length → d + 20 ≤ k → counterpanelaw1_FixForms.l1 k bs (j : Int) = some true := by
  induction d with
  | zero =>
    intro k j hj hk
    obtain ⟨k, rfl⟩ : ∃ m, k = m + 1 := ⟨k - 1, by omega⟩
    rw [counterpanelaw1_FixForms.l1, if_neg (by omega), begun_f k (by omega), Option.bind_some]
  | succ d ih =>
    intro k j hj hk
    obtain ⟨k, rfl⟩ : ∃ m, k = m + 1 := ⟨k - 1, by omega⟩
    obtain ⟨h1, h2⟩ := hb j (by omega)
    have er : rdOf ByteArray.empty bs (j : Int) = bs.getD j ByteArray.empty := by simp [rdOf]
    rw [counterpanelaw1_FixForms.l1, if_pos (by omega), if_pos (by omega), er, parse_f _ (by omega), h2, Option.bind_some, if_neg Bool.false_ne_true, if_pos rfl, wr _ (by omega) (by omega)]
    exact ih k (j + 1) (by omega) (by omega)
theorem good_l (gs ws : List ByteArray) (hl : gs.length ≤ 100) (he : gs.length = ws.length) (hb : ∀ k, 150 ≤ k → counterpanelaw1_FixForms.l1 k bads 0 = some true)
    (hg : ∀ i, i < gs.length → (gs.getD i ByteArray.empty).size ≤ 1000 ∧ ∃ v : Int, parseS (by_ (gs.getD i ByteArray.empty)) = (v, true) ∧ (-9223372036854775808 ≤ v ∧ v ≤ 9223372036854775807) ∧ printC v = by_ (ws.getD i ByteArray.empty)) (d : Nat) :
    ∀ k j : Nat, j + d = gs.length → d + 160 ≤ k → counterpanelaw1_FixForms.l0 k gs ws (j : Int) = some true := by
  induction d with
  | zero =>
    intro k j hj hk
    obtain ⟨k, rfl⟩ : ∃ m, k = m + 1 := ⟨k - 1, by omega⟩
    rw [counterpanelaw1_FixForms.l0, if_neg (by omega)]
    exact hb k (by omega)
  | succ d ih =>
    intro k j hj hk
    obtain ⟨k, rfl⟩ : ∃ m, k = m + 1 := ⟨k - 1, by omega⟩
    obtain ⟨h1, v, h2, h3, h4⟩ := hg j (by omega)
    have er : rdOf ByteArray.empty gs (j : Int) = gs.getD j ByteArray.empty := by simp [rdOf]
    have ew : rdOf ByteArray.empty ws (j : Int) = ws.getD j ByteArray.empty := by simp [rdOf]
    rw [counterpanelaw1_FixForms.l0, if_pos (by omega), if_pos (by omega), er, parse_f _ (by omega), h2, Option.bind_some, if_pos rfl, printC_f v h3.1 h3.2, Option.bind_some, if_pos (by omega), ew, to_by, to_by, by_mk, if_pos h4, wr _ (by omega) (by omega)]
    exact ih k (j + 1) (by omega) (by omega)
def okGood (i : Nat) : Bool := decide ((goods.getD i ByteArray.empty).size ≤ 1000) && (parseS (by_ (goods.getD i ByteArray.empty))).2 && decide (-9223372036854775808 ≤ (parseS (by_ (goods.getD i ByteArray.empty))).1) && decide ((parseS (by_ (goods.getD i ByteArray.empty))).1 ≤ 9223372036854775807) && (printC (parseS (by_ (goods.getD i ByteArray.empty))).1 == by_ (wants.getD i ByteArray.empty))
def okBad (i : Nat) : Bool := decide ((bads.getD i ByteArray.empty).size ≤ 1000) && (parseS (by_ (bads.getD i ByteArray.empty)) == (0, false))
theorem all_good : (List.range 8).all okGood = true := by decide +kernel
theorem all_bad : (List.range 14).all okBad = true := by decide +kernel
theorem fixForms_pure : counterpanelaw1_FixForms.f 300 = some true := by
  refine good_l goods wants (by decide) rfl ?_ ?_ 8 300 0 rfl (by decide)
  · intro k hk
    refine bad_l bads (by decide) ?_ 14 k 0 rfl (by omega)
    intro i hi
    have := List.all_eq_true.mp all_bad i (List.mem_range.mpr hi)
    simp only [okBad, Bool.and_eq_true, decide_eq_true_eq, beq_iff_eq] at this
    exact this
  · intro i hi
    have := List.all_eq_true.mp all_good i (List.mem_range.mpr hi)
    simp only [okGood, Bool.and_eq_true, decide_eq_true_eq, beq_iff_eq] at this
    obtain ⟨⟨⟨⟨h1, h2⟩, h3⟩, h4⟩, h5⟩ := this
    exact ⟨h1, _, Prod.ext rfl h2, ⟨h3, h4⟩, h5⟩
theorem sgn_small (q : Nat) (n : Bool) (h : q ≤ 9223372036854775807) : sgnS q n = (if n then -(q : Int) else (q : Int), true) := by
  unfold sgnS
  cases n
  · rw [if_neg Bool.false_ne_true, if_pos h, if_neg Bool.false_ne_true]
  · rw [if_pos rfl, if_pos (by omega), if_pos rfl]
theorem fixCut_end (k : Nat) (a b p : Int) (u v M R : Nat) (hu : a.natAbs = u) (hv : b.natAbs = v) (hu1 : u ≤ 2147483648) (hv1 : v ≤ 32768) (hv0 : 0 < v) (hM : M + R = u * 10000) (hR : R < v) (hp : p = if a < 0 then -(M : Int) else (M : Int)) :
    counterpanelaw1_FixCut.j0 (k + 1) true (a * 10000) (b * 10000) p false = some true := by
  have w1 : wrap64 (a * 10000 - p) = a * 10000 - p := wr _ (by split at hp <;> omega) (by split at hp <;> omega)
  have w2 : wrap64 (-(a * 10000 - p)) = -(a * 10000 - p) := wr _ (by split at hp <;> omega) (by split at hp <;> omega)
  have w3 : wrap64 (-(b * 10000)) = -(b * 10000) := wr _ (by omega) (by omega)
  rw [counterpanelaw1_FixCut.j0, if_neg Bool.false_ne_true, w1, w2, w3]
  have yes : ∀ x y : Int, x < y → some (decide (x < y)) = some true := fun x y h => congrArg some (decide_eq_true h)
  have same : p ≠ 0 → (decide (p < 0) == decide (a * 10000 < 0)) = true := by
    intro h
    by_cases c : a < 0
    · rw [if_pos c] at hp
      rw [decide_eq_true (show p < 0 by omega), decide_eq_true (show a * 10000 < 0 by omega)]; rfl
    · rw [if_neg c] at hp
      rw [decide_eq_false (show ¬ p < 0 by omega), decide_eq_false (show ¬ a * 10000 < 0 by omega)]; rfl
  by_cases c1 : a * 10000 - p < 0
  · rw [if_pos c1]
    by_cases c2 : b * 10000 < 0
    · rw [if_pos c2]
      by_cases c3 : p = 0
      · rw [if_pos c3, if_pos rfl]; exact yes _ _ (by split at hp <;> omega)
      · rw [if_neg c3, if_pos rfl, if_pos (same c3)]; exact yes _ _ (by split at hp <;> omega)
    · rw [if_neg c2]
      by_cases c3 : p = 0
      · rw [if_pos c3, if_pos rfl]; exact yes _ _ (by split at hp <;> omega)
      · rw [if_neg c3, if_pos rfl, if_pos (same c3)]; exact yes _ _ (by split at hp <;> omega)
  · rw [if_neg c1]
    by_cases c2 : b * 10000 < 0
    · rw [if_pos c2]
      by_cases c3 : p = 0
      · rw [if_pos c3, if_pos rfl]; exact yes _ _ (by split at hp <;> omega)
      · rw [if_neg c3, if_pos rfl, if_pos (same c3)]; exact yes _ _ (by split at hp <;> omega)
    · rw [if_neg c2]
      by_cases c3 : p = 0
      · rw [if_pos c3, if_pos rfl]; exact yes _ _ (by split at hp <;> omega)
      · rw [if_neg c3, if_pos rfl, if_pos (same c3)]; exact yes _ _ (by split at hp <;> omega)
theorem fixCut_pure (a b : Int) (ha : -2147483648 ≤ a ∧ a ≤ 2147483647) (hb : -32768 ≤ b ∧ b ≤ 32767) : counterpanelaw1_FixCut.f 300 a b = some true := by
  unfold counterpanelaw1_FixCut.f
  rw [begun_f 300 (by decide), Option.bind_some, if_pos rfl, wr a (by omega) (by omega), wr b (by omega) (by omega)]
  by_cases c : b = 0
  · rw [if_pos c, div_f a 0 (by omega) (by omega) (by decide) (by decide) (.inl rfl), Option.bind_some]
    have : divS a 0 = (0, false) := by
      unfold divS
      rw [if_pos (show Int.natAbs 0 ≤ _ from Nat.zero_le _)]
    rw [this]
    rfl
  · rw [if_neg c, wr (a * 10000) (by omega) (by omega), wr (b * 10000) (by omega) (by omega)]
    obtain ⟨u, hu⟩ : ∃ u, a.natAbs = u := ⟨_, rfl⟩
    obtain ⟨v, hv⟩ : ∃ v, b.natAbs = v := ⟨_, rfl⟩
    have hX : (a * 10000).natAbs = u * 10000 := by omega
    have hY : (b * 10000).natAbs = v * 10000 := by omega
    have hv0 : 0 < v := by omega
    rw [div_f (a * 10000) (b * 10000) (by omega) (by omega) (by omega) (by omega) (.inr (.inl (by rw [hX]; omega))), Option.bind_some]
    obtain ⟨q, hq⟩ : ∃ q, u * 10000 / v = q := ⟨_, rfl⟩
    have hqe : (u * 10000 * 10000) / (v * 10000) = q := by rw [Nat.mul_div_mul_right _ _ (by decide), hq]
    have hqm : v * q + u * 10000 % v = u * 10000 := by rw [← hq]; exact Nat.div_add_mod _ _
    have hqb : q ≤ u * 10000 := by rw [← hq]; exact Nat.div_le_self _ _
    have hr := Nat.mod_lt (u * 10000) hv0
    have eD : divS (a * 10000) (b * 10000) = (if (decide (a < 0) != decide (b < 0)) = true then -(q : Int) else (q : Int), true) := by
      unfold divS
      rw [hX, hY, if_neg (by omega), hqe, sgn_small q _ (by omega)]
      have e1 : decide (a * 10000 < 0) = decide (a < 0) := by by_cases h : a < 0 <;> simp [h] <;> omega
      have e2 : decide (b * 10000 < 0) = decide (b < 0) := by by_cases h : b < 0 <;> simp [h] <;> omega
      rw [e1, e2]
    rw [eD]
    obtain ⟨Q, hQ⟩ : ∃ Q : Int, (if (decide (a < 0) != decide (b < 0)) = true then -(q : Int) else (q : Int)) = Q := ⟨_, rfl⟩
    rw [hQ]
    have hQa : Q.natAbs = q := by rw [← hQ]; split <;> omega
    rw [mul_f Q (b * 10000) (by omega) (by omega) (by omega) (by omega), Option.bind_some]
    have hqv : v * q ≤ u * 10000 := by omega
    have eM : mulS Q (b * 10000) = (if (decide (Q < 0) != decide (b * 10000 < 0)) = true then -((v * q : Nat) : Int) else ((v * q : Nat) : Int), true) := by
      unfold mulS
      have e : q * (v * 10000) = v * q * 10000 := by rw [← Nat.mul_assoc, Nat.mul_comm q v]
      rw [hQa, hY, e, if_neg (by omega), Nat.mul_div_cancel _ (by decide), sgn_small _ _ (by omega)]
    rw [eM, if_pos rfl]
    refine fixCut_end 299 a b _ u v (v * q) (u * 10000 % v) hu hv (by omega) (by omega) hv0 hqm hr ?_
    have hM0 : q = 0 → v * q = 0 := by rintro rfl; simp
    generalize v * q = M at *
    by_cases z : q = 0
    · have hM : M = 0 := hM0 z
      subst hM
      split <;> split <;> rfl
    · have : (decide (Q < 0) != decide (b * 10000 < 0)) = decide (a < 0) := by
        by_cases g1 : a < 0 <;> by_cases g2 : b < 0 <;> simp [g1, g2] at hQ ⊢ <;> omega
      rw [this]
      by_cases g1 : a < 0
      · simp [g1]
      · simp [g1]
theorem fixCut_walk (a b : Int) (ha : (Lit.int .i32 a).wf = true) (hb : (Lit.int .i16 b).wf = true) (W : World) (hL : Aside0 (Lq W)) :
    Calls Tryd.prog 4 #[.int .i32 a, .int .i16 b] W fun e w' => e = .returned (.bool true) ∧ Below W.heap.size W w' := by
  have h1 : -2147483648 ≤ a ∧ a ≤ 2147483647 := by
    simp [Lit.wf, IntKind.min, IntKind.max, IntKind.signed, IntKind.bits] at ha
    omega
  have h2 : -32768 ≤ b ∧ b ≤ 32767 := by
    simp [Lit.wf, IntKind.min, IntKind.max, IntKind.signed, IntKind.bits] at hb
    omega
  exact counterpanelaw1_FixCut.calls (hL := hL) 300 a b true W (fixCut_pure a b h1 h2)
theorem fixForms_walk (W : World) (hL : Aside0 (Lq W)) : Calls Tryd.prog 5 #[] W fun e w' => e = .returned (.bool true) ∧ Below W.heap.size W w' :=
  counterpanelaw1_FixForms.calls (hL := hL) 300 true W fixForms_pure
theorem fixRing_walk (a b : Int) (ha : (Lit.int .i64 a).wf = true) (hb : (Lit.int .i64 b).wf = true) (W : World) (hL : Aside0 (Lq W)) :
    Calls Tryd.prog 8 #[.int .i64 a, .int .i64 b] W fun e w' => e = .returned (.bool true) ∧ Below W.heap.size W w' :=
  counterpanelaw1_FixRing.calls (hL := hL) 300 a b true W (fixRing_pure a b (nat_wf ha) (nat_wf hb))
end Go.Proofs.YtkcncfikejepdaaDoor.EFix
