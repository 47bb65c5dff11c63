/- Contracts of what the program takes of Go's library (strings.Cut, strconv.FormatInt, strconv.FormatUint, strconv.ParseUint) and of a1.number, in the form of the printed functions: they return what the plain functions '.f' say. Condition: the library's own variables read as its text lays them ('Lq'). -/
import Derived.Test.YtpabggjnkoehfaaDoorPuB
import Derived.Test.YtpabggjnkoehfaaDoorFmt
import Derived.Test.YtpabggjnkoehfaaDoorWMore
import Derived.Lib.AppendIntMem
import Derived.Deep.QuietTactic
import Derived.WalkSmall
namespace Go.Proofs.YtpabggjnkoehfaaDoor.Ext
open Go.Shelf Go.RowKit Go.Sort Go.Lib Go.Proofs.YtpabggjnkoehfaaDoorW.PrintWords
/-- what the library's variables read as -/
structure Lq (w : World) : Prop where
  m : ∃ v, w.cell? ⟨0, 0, none⟩ = some (.int .i64 v)
  tab : Lib.TabIs Tryd.prog w "internal/strconv.uint64pow10" .u64 Lib.pow10Tab
  e0 : ∃ tp p, w.cell? ⟨4, 0, none⟩ = some (.iface tp p)
  e1 : ∃ tp p, w.cell? ⟨5, 0, none⟩ = some (.iface tp p)
theorem cell_lt {w : World} {b o : Nat} {v : Value} (h : w.cell? ⟨b, o, none⟩ = some v) : b < w.heap.size := by
  unfold World.cell? at h
  by_cases hb : b < w.heap.size
  · exact hb
  · rw [Array.getElem?_eq_none (by simpa using hb)] at h; cases h
theorem tab_lt {w : World} (h : Lib.TabIs Tryd.prog w "internal/strconv.uint64pow10" .u64 Lib.pow10Tab) : ∃ g, Tryd.prog.globalNamed "internal/strconv.uint64pow10" = some g ∧ g < w.heap.size := by
  unfold Lib.TabIs World.var? at h
  cases hg : Tryd.prog.globalNamed "internal/strconv.uint64pow10" with
  | none => rw [hg] at h; cases h
  | some g =>
    refine ⟨g, rfl, ?_⟩
    rw [hg] at h
    by_cases hb : g < w.heap.size
    · exact hb
    · simp only [Option.bind_some] at h
      rw [Array.getElem?_eq_none (by omega)] at h; cases h
theorem Lq.below {w w' : World} (h : Lq w) (hb : Below w.heap.size w w') : Lq w' := by
  obtain ⟨v, hm⟩ := h.m
  obtain ⟨t0, p0, h0⟩ := h.e0
  obtain ⟨t1, p1, h1⟩ := h.e1
  obtain ⟨g, hg, hl⟩ := tab_lt h.tab
  exact ⟨⟨v, (hb.cell (p := ⟨0, 0, none⟩) (cell_lt hm)).trans hm⟩, var?_below hb hg hl h.tab, ⟨t0, p0, (hb.cell (p := ⟨4, 0, none⟩) (cell_lt h0)).trans h0⟩, ⟨t1, p1, (hb.cell (p := ⟨5, 0, none⟩) (cell_lt h1)).trans h1⟩⟩
theorem Lq.drawn {w w' : World} (h : Lq w) (hd : Drawn0 w w') : Lq w' := h.below hd.below

def strings_Cut.f (a0 a1 : ByteArray) : Option (ByteArray × ByteArray × Bool) :=
  if a0.size < 4294967281 then some (⟨(Lib.cut a0.data.toList a1.data.toList).1.toArray⟩, ⟨(Lib.cut a0.data.toList a1.data.toList).2.1.toArray⟩, (Lib.cut a0.data.toList a1.data.toList).2.2) else none
theorem strings_Cut.calls (a0 a1 r1 r2 : ByteArray) (r3 : Bool) (w : World) (hL : Aside0 (Lq w)) (h : strings_Cut.f a0 a1 = some (r1, r2, r3)) :
    Calls Tryd.prog 25 #[.string a0, .string a1] w fun e w' => e = .returned (.tuple #[.string r1, .string r2, .bool r3]) ∧ Drawn0 w w' := by
  obtain ⟨v, hm⟩ := hL.out.m
  unfold strings_Cut.f at h
  by_cases hs : a0.size < 4294967281
  · rw [if_pos hs] at h
    simp only [Option.some.injEq, Prod.mk.injEq] at h
    obtain ⟨rfl, rfl, rfl⟩ := h
    exact (Tryd.strings_Cut a0 a1 v w hs hm).mono fun e w' ⟨he, hw⟩ => ⟨he, ⟨hw⟩⟩
  · rw [if_neg hs] at h; cases h

def strconv_FormatInt.f (a0 a1 : Int) : Option ByteArray :=
  if a1 = 10 ∧ -9223372036854775808 ≤ a0 ∧ a0 ≤ 9223372036854775807 then some ⟨(Lib.itoa a0).toArray⟩ else none
theorem strconv_FormatInt.calls (a0 a1 : Int) (r : ByteArray) (w : World) (hL : Aside0 (Lq w)) (h : strconv_FormatInt.f a0 a1 = some r) :
    Calls Tryd.prog 31 #[.int .i64 a0, .int .i64 a1] w fun e w' => e = .returned (.string r) ∧ Below w.heap.size w w' := by
  unfold strconv_FormatInt.f at h
  by_cases hs : a1 = 10 ∧ -9223372036854775808 ≤ a0 ∧ a0 ≤ 9223372036854775807
  · rw [if_pos hs] at h
    obtain ⟨rfl, h0, h1⟩ := hs
    obtain rfl := Option.some.inj h
    refine (Tryd.strconv_FormatInt_10 a0 h0 h1 w hL.out.tab).mono ?_
    rintro e w' ⟨he, k, os, rfl⟩
    exact ⟨he, below_grow _ _ (Nat.le_refl _) _ _⟩
  · rw [if_neg hs] at h; cases h

theorem FormatUint_10 (u : Nat) (hu : u < 18446744073709551616) (w : World) (hL : Aside0 (Lq w)) :
    Calls Tryd.prog 37 #[.int .u64 u, .int .i64 10] w fun e w' => e = .returned (.string ⟨(Lib.decDigits u).toArray⟩) ∧ Below w.heap.size w w' := by
  go_enter Tryd.func37, Tryd.ntmps37
  go_wp2_with (go_at_call 50; refine (Tryd.internal_FormatUint_10 u hu _ hL.out.tab).mono ?_; rintro e w' ⟨rfl, k, os, rfl⟩)
  go_ret
  exact ⟨rfl, below_grow _ _ (Nat.le_refl _) _ _⟩

theorem parseUintM_le (M : Nat) (l : List UInt8) : ∀ (acc u : Nat), acc ≤ M → Lib.parseUintM M acc l = .ok u → u ≤ M := by
  induction l with
  | nil => intro acc u ha h; simp only [Lib.parseUintM] at h; injection h with h; omega
  | cons c r ih =>
    intro acc u ha h
    unfold Lib.parseUintM at h
    split at h
    · split at h
      · cases h
      · split at h
        · cases h
        · exact ih _ u (by omega) h
    · cases h
theorem parseUintB_le (B : Nat) (l : List UInt8) (u : Nat) (h : Lib.parseUintB B l = .ok u) : u ≤ 2 ^ B - 1 := by
  unfold Lib.parseUintB at h
  split at h
  · cases h
  · exact parseUintM_le _ l 0 u (Nat.zero_le _) h

def numberF (s : List UInt8) (most : Int) : Int :=
  match Lib.parseUintB 62 s with
  | .ok u => if Lib.decDigits u = s ∧ (u : Int) ≤ most then u else -1
  | _ => -1
def a1_number.f (a0 : ByteArray) (a1 : Int) : Option Int := if a0.size ≤ 281474976710656 then some (numberF a0.data.toList a1) else none
set_option maxHeartbeats 1600000 in
theorem a1_number.calls (a0 : ByteArray) (a1 : Int) (r : Int) (w : World) (hL : Aside0 (Lq w)) (h : a1_number.f a0 a1 = some r) :
    Calls Tryd.prog 27 #[.string a0, .int .i64 a1] w fun e w' => e = .returned (.int .i64 r) ∧ Below w.heap.size w w' := by
  unfold a1_number.f at h
  by_cases hs : a0.size ≤ 281474976710656
  · rw [if_pos hs] at h
    obtain rfl := Option.some.inj h
    rcases hp : Lib.parseUintB 62 a0.data.toList with u | _ | _
    ·
      have hu := parseUintB_le 62 _ u hp
      have hu2 : u ≤ 4611686018427387903 := hu
      have c := Any.strconv_ParseUint_10_at62_ok Tryd.laysPu14 a0 (by omega) u hp w
      have c' : Calls Tryd.prog 36 #[.string a0, .int .i64 10, .int .i64 62] w fun e w' => e = .returned (.tuple #[.int .u64 u, .nilIface]) ∧ Below w.heap.size w w' := c.mono fun e w' ⟨he, hw⟩ => ⟨he, by
        rcases hw with rfl | rfl
        · exact Below.refl _ _
        · exact Lib.bytesWorld_below _ _ _⟩
      clear c
      have hv : numberF a0.data.toList a1 = if Lib.decDigits u = a0.data.toList ∧ (u : Int) ≤ a1 then (u : Int) else -1 := by unfold numberF; rw [hp]
      rw [hv]
      clear hv hp hu h
      by_cases c1 : Lib.decDigits u = a0.data.toList
      · have k1 : (Lib.decDigits u == a0.toList) = true := by rw [ByteArray.toList_eq, c1]; exact beq_self_eq_true _
        by_cases c2 : (u : Int) ≤ a1
        · rw [if_pos ⟨c1, c2⟩]
          clear c1
          go_enter Tryd.func27, Tryd.ntmps27
          go_wp2_with fail
          refine c'.mono ?_
          rintro e W1 ⟨rfl, hb⟩
          go_wp2_with fail
          refine (FormatUint_10 u (by omega) W1 ⟨hL.out.below hb⟩).mono ?_
          rintro e W2 ⟨rfl, hb2⟩
          go_wp2_with fail
          go_ret
          exact ⟨rfl, hb.trans (hb2.mono hb.size)⟩
        · rw [if_neg (fun h => c2 h.2)]
          have c3 : a1 < (u : Int) := by omega
          clear c1 c2
          go_enter Tryd.func27, Tryd.ntmps27
          go_wp2_with fail
          refine c'.mono ?_
          rintro e W1 ⟨rfl, hb⟩
          go_wp2_with fail
          refine (FormatUint_10 u (by omega) W1 ⟨hL.out.below hb⟩).mono ?_
          rintro e W2 ⟨rfl, hb2⟩
          go_wp2_with fail
          go_ret
          exact ⟨rfl, hb.trans (hb2.mono hb.size)⟩
      · have k1 : (Lib.decDigits u == a0.toList) = false := by
          rw [ByteArray.toList_eq]
          exact beq_eq_false_iff_ne.2 c1
        rw [if_neg (fun h => c1 h.1)]
        clear c1
        go_enter Tryd.func27, Tryd.ntmps27
        go_wp2_with fail
        refine c'.mono ?_
        rintro e W1 ⟨rfl, hb⟩
        go_wp2_with fail
        refine (FormatUint_10 u (by omega) W1 ⟨hL.out.below hb⟩).mono ?_
        rintro e W2 ⟨rfl, hb2⟩
        go_wp2_with fail
        go_ret
        exact ⟨rfl, hb.trans (hb2.mono hb.size)⟩
    ·
      obtain ⟨tp, p, he⟩ := hL.out.e0
      have c := Any.strconv_ParseUint_10_at62_syntax Tryd.laysPu14 a0 hs hp (.iface tp p) w he (.inr ⟨tp, p, rfl⟩)
      have hv : numberF a0.data.toList a1 = -1 := by unfold numberF; rw [hp]
      rw [hv]
      clear hv hp h he
      go_enter Tryd.func27, Tryd.ntmps27
      go_wp2_with fail
      refine c.mono ?_
      rintro e W1 ⟨M, rfl, hM, hcell, hb⟩
      clear hcell
      go_wp2_with fail
      go_ret
      exact ⟨rfl, hb⟩
    ·
      obtain ⟨tp, p, he⟩ := hL.out.e1
      have c := Any.strconv_ParseUint_10_at62_range Tryd.laysPu14 a0 hs hp (.iface tp p) w he (.inr ⟨tp, p, rfl⟩)
      have hv : numberF a0.data.toList a1 = -1 := by unfold numberF; rw [hp]
      rw [hv]
      clear hv hp h he
      go_enter Tryd.func27, Tryd.ntmps27
      go_wp2_with fail
      refine c.mono ?_
      rintro e W1 ⟨M, rfl, hM, hcell, hb⟩
      clear hcell
      go_wp2_with fail
      go_ret
      exact ⟨rfl, hb⟩
  · rw [if_neg hs] at h; cases h
end Go.Proofs.YtpabggjnkoehfaaDoor.Ext
