/- Contracts of what fixnum takes of Go's library (strings.Cut, Repeat, TrimRight, strconv.FormatUint, ParseUint, math/bits.Add64, Div64), in the form of the printed functions. Condition: the library's own variables read as its text lays them ('Lq'). -/
import Derived.Test.YtfnbflhoaemmeaaGreatDoorFmt
import Derived.Test.YtfnbflhoaemmeaaGreatDoorDiv
import Derived.Test.YtfnbflhoaemmeaaGreatDoorWMore
import Derived.Lib.AppendIntMem
import Derived.Laws.Externs
import Derived.Deep.QuietTactic
import Derived.WalkSmall
namespace Go.Proofs.YtfnbflhoaemmeaaGreatDoor.Ext
open Go.Shelf Go.RowKit Go.Sort Go.Lib Go.Proofs.YtfnbflhoaemmeaaGreatDoorW.PrintWords Go.Proofs.YtfnbflhoaemmeaaGreatDoorW.PrintLast Go.Proofs.YtfnbflhoaemmeaaGreatDoor.EFxA
/-- what the library's variables read as -/
structure Lq (w : World) : Prop where
  m : ∃ v, w.cell? ⟨2, 0, none⟩ = some (.int .i64 v)
  tab : Lib.TabIs Tryz.prog w "internal/strconv.uint64pow10" .u64 Lib.pow10Tab
  e0 : ∃ tp p, w.cell? ⟨5, 0, none⟩ = some (.iface tp p)
  e1 : ∃ tp p, w.cell? ⟨6, 0, none⟩ = some (.iface tp p)
  ut : Lib.Utf8Tabs (Tryz.lays196_ren.g 3) (Tryz.lays196_ren.g 4) w
theorem cell_lt {w : World} {b o : Nat} {v : Value} (h : w.cell? ⟨b, o, none⟩ = some v) : b < w.heap.size := by
  unfold World.cell? at h
  by_cases hb : b < w.heap.size
  · exact hb
  · rw [Array.getElem?_eq_none (by simpa using hb)] at h; cases h
theorem tab_lt {w : World} (h : Lib.TabIs Tryz.prog w "internal/strconv.uint64pow10" .u64 Lib.pow10Tab) : ∃ g, Tryz.prog.globalNamed "internal/strconv.uint64pow10" = some g ∧ g < w.heap.size := by
  unfold Lib.TabIs World.var? at h
  cases hg : Tryz.prog.globalNamed "internal/strconv.uint64pow10" with
  | none => rw [hg] at h; cases h
  | some g =>
    refine ⟨g, rfl, ?_⟩
    rw [hg] at h
    by_cases hb : g < w.heap.size
    · exact hb
    · simp only [Option.bind_some] at h
      rw [Array.getElem?_eq_none (by omega)] at h; cases h
theorem Lq.below {w w' : World} (h : Lq w) (hb : Below w.heap.size w w') : Lq w' := by
  obtain ⟨v, hm⟩ := h.m
  obtain ⟨t0, p0, h0⟩ := h.e0
  obtain ⟨t1, p1, h1⟩ := h.e1
  obtain ⟨g, hg, hl⟩ := tab_lt h.tab
  exact ⟨⟨v, (hb.cell (p := ⟨2, 0, none⟩) (cell_lt hm)).trans hm⟩, var?_below hb hg hl h.tab, ⟨t0, p0, (hb.cell (p := ⟨5, 0, none⟩) (cell_lt h0)).trans h0⟩, ⟨t1, p1, (hb.cell (p := ⟨6, 0, none⟩) (cell_lt h1)).trans h1⟩, Utf8Tabs_below h.ut hb⟩
theorem Lq.drawn {w w' : World} (h : Lq w) (hd : Drawn0 w w') : Lq w' := h.below hd.below

def strings_Cut.f (a0 a1 : ByteArray) : Option (ByteArray × ByteArray × Bool) :=
  if a0.size < 4294967281 then some (⟨(Lib.cut a0.data.toList a1.data.toList).1.toArray⟩, ⟨(Lib.cut a0.data.toList a1.data.toList).2.1.toArray⟩, (Lib.cut a0.data.toList a1.data.toList).2.2) else none
theorem strings_Cut.calls (a0 a1 r1 r2 : ByteArray) (r3 : Bool) (w : World) (hL : Aside0 (Lq w)) (h : strings_Cut.f a0 a1 = some (r1, r2, r3)) :
    Calls Tryz.prog 67 #[.string a0, .string a1] w fun e w' => e = .returned (.tuple #[.string r1, .string r2, .bool r3]) ∧ Drawn0 w w' := by
  obtain ⟨v, hm⟩ := hL.out.m
  unfold strings_Cut.f at h
  by_cases hs : a0.size < 4294967281
  · rw [if_pos hs] at h
    simp only [Option.some.injEq, Prod.mk.injEq] at h
    obtain ⟨rfl, rfl, rfl⟩ := h
    exact (Tryz.strings_Cut a0 a1 v w hs hm).mono fun e w' ⟨he, hw⟩ => ⟨he, ⟨hw⟩⟩
  · rw [if_neg hs] at h; cases h

theorem FormatUint_10 (u : Nat) (hu : u < 18446744073709551616) (w : World) (hL : Aside0 (Lq w)) :
    Calls Tryz.prog 77 #[.int .u64 u, .int .i64 10] w fun e w' => e = .returned (.string ⟨(Lib.decDigits u).toArray⟩) ∧ Below w.heap.size w w' := by
  go_enter Tryz.func77, Tryz.ntmps77
  go_wp2_with (go_at_call 102; refine (Tryz.internal_FormatUint_10 u hu _ hL.out.tab).mono ?_; rintro e w' ⟨rfl, k, os, rfl⟩)
  go_ret
  exact ⟨rfl, below_grow _ _ (Nat.le_refl _) _ _⟩

theorem parseUintM_le (M : Nat) (l : List UInt8) : ∀ (acc u : Nat), acc ≤ M → Lib.parseUintM M acc l = .ok u → u ≤ M := by
  induction l with
  | nil => intro acc u ha h; simp only [Lib.parseUintM] at h; injection h with h; omega
  | cons c r ih =>
    intro acc u ha h
    unfold Lib.parseUintM at h
    split at h
    · split at h
      · cases h
      · split at h
        · cases h
        · exact ih _ u (by omega) h
    · cases h
theorem parseUintB_le (B : Nat) (l : List UInt8) (u : Nat) (h : Lib.parseUintB B l = .ok u) : u ≤ 2 ^ B - 1 := by
  unfold Lib.parseUintB at h
  split at h
  · cases h
  · exact parseUintM_le _ l 0 u (Nat.zero_le _) h
def strconv_FormatUint.f (a0 a1 : Int) : Option ByteArray :=
  if a1 = 10 ∧ 0 ≤ a0 ∧ a0 < 18446744073709551616 then some ⟨(Lib.decDigits a0.toNat).toArray⟩ else none
theorem strconv_FormatUint.calls (a0 a1 : Int) (r : ByteArray) (w : World) (hL : Aside0 (Lq w)) (h : strconv_FormatUint.f a0 a1 = some r) :
    Calls Tryz.prog 77 #[.int .u64 a0, .int .i64 a1] w fun e w' => e = .returned (.string r) ∧ Below w.heap.size w w' := by
  unfold strconv_FormatUint.f at h
  by_cases hs : a1 = 10 ∧ 0 ≤ a0 ∧ a0 < 18446744073709551616
  · rw [if_pos hs] at h
    obtain ⟨rfl, h0, h1⟩ := hs
    obtain rfl := Option.some.inj h
    have c := FormatUint_10 a0.toNat (by omega) w hL
    rw [Int.toNat_of_nonneg h0] at c
    exact c
  · rw [if_neg hs] at h; cases h

def math_bits_Div64.f (hi lo y : Int) : Option (Int × Int) :=
  if 0 ≤ lo ∧ lo < 18446744073709551616 ∧ ((hi = 0 ∧ 0 < y ∧ y < 18446744073709551616) ∨ (0 < hi ∧ hi < 10000 ∧ y = 10000)) then some ((hi * 18446744073709551616 + lo) / y, (hi * 18446744073709551616 + lo) % y) else none
theorem math_bits_Div64.calls (hi lo y r1 r2 : Int) (w : World) (h : math_bits_Div64.f hi lo y = some (r1, r2)) :
    Calls Tryz.prog 109 #[.int .u64 hi, .int .u64 lo, .int .u64 y] w fun e w' => e = .returned (.tuple #[.int .u64 r1, .int .u64 r2]) ∧ Drawn0 w w' := by
  unfold math_bits_Div64.f at h
  by_cases hs : 0 ≤ lo ∧ lo < 18446744073709551616 ∧ ((hi = 0 ∧ 0 < y ∧ y < 18446744073709551616) ∨ (0 < hi ∧ hi < 10000 ∧ y = 10000))
  · rw [if_pos hs] at h
    simp only [Option.some.injEq, Prod.mk.injEq] at h
    obtain ⟨rfl, rfl⟩ := h
    obtain ⟨h0, h1, ⟨rfl, h2, h3⟩ | ⟨h2, h3, rfl⟩⟩ := hs
    · rw [show (0 : Int) * 18446744073709551616 + lo = lo by omega]
      exact div_lo lo y w h2 h3 h0 h1
    · exact div_10000 hi lo w h2 h3 h0 h1
  · rw [if_neg hs] at h; cases h

def strings_TrimRight.f (a0 a1 : ByteArray) : Option ByteArray := if a1.toList = [48] then strings_trimRightByte.f (a0.size + 1) a0 48 else none
set_option maxHeartbeats 1600000 in
set_option maxRecDepth 100000 in
theorem strings_TrimRight.calls (a0 a1 : ByteArray) (r : ByteArray) (w : World) (h : strings_TrimRight.f a0 a1 = some r) :
    Calls Tryz.prog 78 #[.string a0, .string a1] w fun e w' => e = .returned (.string r) ∧ Drawn0 w w' := by
  unfold strings_TrimRight.f at h
  by_cases hs : a1.toList = [48]
  · rw [if_pos hs] at h
    obtain rfl : a1 = ⟨#[48]⟩ := ByteArray.ext (Array.toList_inj.mp (by rw [← ByteArray.toList_eq, hs]))
    by_cases he : a0.toList = []
    · have k0 : (a0.toList == ([] : List UInt8)) = true := by rw [he]; rfl
      obtain rfl : a0 = ⟨#[]⟩ := ByteArray.ext (Array.toList_inj.mp (by rw [← ByteArray.toList_eq, he]))
      have hr : r = ⟨#[]⟩ := by
        have : strings_trimRightByte.f ((⟨#[]⟩ : ByteArray).size + 1) ⟨#[]⟩ 48 = some ⟨#[]⟩ := rfl
        rw [this] at h
        exact (Option.some.inj h).symm
      subst hr
      go_enter Tryz.func78, Tryz.ntmps78
      go_wp2_with fail
      go_ret
      exact ⟨by first | rfl | (simp; done), by repeat (first | exact Drawn0.refl _ | apply Drawn0.step)⟩
    · have k0 : (a0.toList == ([] : List UInt8)) = false := beq_eq_false_iff_ne.mpr he
      have k1 : a0.toList.isEmpty = false := List.isEmpty_eq_false_iff.mpr he
      go_enter Tryz.func78, Tryz.ntmps78
      go_wp2_with (first
        | ((with_reducible refine gate_callee (f := 103) rfl ?_); refine goesL_ (some 25) rfl rfl Tryz.func103 (by kernel_rfl) rfl #[.string a0, .int .u8 48] rfl (by (try simp only [List.map_toArray, List.map_cons, List.map_nil]); first | done | rfl) ?_; (with_reducible refine (strings_trimRightByte.calls (a0.size + 1) a0 48 r _ h).mono ?_); rintro e w' ⟨rfl, ⟨nd, rfl⟩⟩; refine ⟨_, rfl, ?_⟩))
      go_ret
      exact ⟨by first | rfl | (simp; done), by repeat (first | exact Drawn0.refl _ | apply Drawn0.step)⟩
  · rw [if_neg hs] at h; cases h

def utf8_ValidString.f (a0 : ByteArray) : Option Bool := if a0.size ≤ 9223372036854775807 then some (Lib.validD a0.data.toList) else none
theorem utf8_ValidString.calls (a0 : ByteArray) (r : Bool) (w : World) (hL : Aside0 (Lq w)) (h : utf8_ValidString.f a0 = some r) :
    Calls Tryz.prog 49 #[.string a0] w fun e w' => e = .returned (.bool r) ∧ Below w.heap.size w w' := by
  unfold utf8_ValidString.f at h
  by_cases hs : a0.size ≤ 9223372036854775807
  · rw [if_pos hs] at h
    obtain rfl := Option.some.inj h
    exact Tryz.utf8_ValidString a0 w hs hL.out.ut
  · rw [if_neg hs] at h; cases h
def strings_Compare.f (a0 a1 : ByteArray) : Option Int := some (Lib.compareBytes a0.data.toList a1.data.toList)
theorem strings_Compare.calls (a0 a1 : ByteArray) (r : Int) (w : World) (h : strings_Compare.f a0 a1 = some r) :
    Calls Tryz.prog 40 #[.string a0, .string a1] w fun e w' => e = .returned (.int .i64 r) ∧ Drawn0 w w' := by
  obtain rfl := Option.some.inj h
  exact (Tryz.strings_Compare a0 a1 w).mono fun e w' ⟨he, hw⟩ => ⟨he, by subst hw; exact Drawn0.refl _⟩
end Go.Proofs.YtfnbflhoaemmeaaGreatDoor.Ext
