/- Part 4 of what the claim's proof stands on: contracts of the program's functions, by walks, and plain laws. -/
import Derived.Test.YtfnbflhoaemmeaaGreatDoorZw3
import Derived.ArgAppend
import Derived.Below
import Derived.BigQuiet
import Derived.Deep.AppendLies
import Derived.Deep.CutBlock
import Derived.Deep.DeepCutAuto
import Derived.Deep.Draws
import Derived.Deep.LoopGhost
import Derived.Deep.OwnRows
import Derived.Deep.QuietTactic
import Derived.Deep.RegionHeld3
import Derived.KernelRfl
import Derived.Laws.BitsLemmas
import Derived.Laws.BytesArg
import Derived.Laws.IdiomCopy
import Derived.Laws.MakeOwn
import Derived.Laws.OwnMore
import Derived.Laws.Rows
import Derived.Laws.Slices
import Derived.Lib.AppendStr
import Derived.Lib.ConvBytes
import Derived.Maps.AppendAt
import Derived.OrdersHeld
import Derived.OwnWalk
import Derived.RowKit
import Derived.RowKit3
import Derived.Tactics
import Derived.Test.YtfnbflhoaemmeaaGreatDoorProg
import Derived.WalkKit
import Derived.WideLaws
section
namespace Go.Proofs.YtfnbflhoaemmeaaGreatDoor.EVal
open Go.RowKit Go.Lib Go.Proofs.YtfnbflhoaemmeaaGreatDoorW.PrintWords Go.Proofs.YtfnbflhoaemmeaaGreatDoorW.PrintLast Go.Proofs.YtfnbflhoaemmeaaGreatDoor.Ext Go.Proofs.YtfnbflhoaemmeaaGreatDoor.EFxA Go.Proofs.YtfnbflhoaemmeaaGreatDoor.EFix
set_option linter.unusedVariables false
set_option linter.unusedSimpArgs false
theorem name_f (e : Int) : ∃ r, value_Name.f e = some r ∧ (by_ r = [] ↔ ¬ (1 ≤ e ∧ e ≤ 7)) := by
  unfold value_Name.f
  by_cases c1 : e = 1
  · subst c1; exact ⟨_, if_pos rfl, by decide⟩
  rw [if_neg c1]
  by_cases c2 : e = 2
  · subst c2; exact ⟨_, if_pos rfl, by decide⟩
  rw [if_neg c2]
  by_cases c3 : e = 3
  · subst c3; exact ⟨_, if_pos rfl, by decide⟩
  rw [if_neg c3]
  by_cases c4 : e = 4
  · subst c4; exact ⟨_, if_pos rfl, by decide⟩
  rw [if_neg c4]
  by_cases c5 : e = 5
  · subst c5; exact ⟨_, if_pos rfl, by decide⟩
  rw [if_neg c5]
  by_cases c6 : e = 6
  · subst c6; exact ⟨_, if_pos rfl, by decide⟩
  rw [if_neg c6]
  by_cases c7 : e = 7
  · subst c7; exact ⟨_, if_pos rfl, by decide⟩
  rw [if_neg c7]
  exact ⟨_, rfl, ⟨fun _ => by omega, fun _ => rfl⟩⟩
theorem may_f (k n : Int) (t : ByteArray) (b : Bool) (e : Int) (hs : t.size ≤ 9223372036854775807) : value_May.f k n t b e = some (mayS (k, n, t, b, e)) := by
  have hv : utf8_ValidString.f t = some (validD (by_ t)) := by unfold utf8_ValidString.f; rw [if_pos hs]; rfl
  obtain ⟨nm, h1, h2⟩ := name_f e
  unfold value_May.f mayS
  rw [hv, h1, to_by]
  simp only [Option.bind_some, to_by]
  have hl := by_len t
  by_cases k0 : k = 0
  · subst k0
    by_cases ht : by_ t = []
    · have hz : t.size = 0 := by rw [← hl, ht]; rfl
      by_cases hn : n = 0 <;> by_cases he : e = 0 <;> cases b <;> simp [hn, ht, he, hz, validD_nil]
    · by_cases hn : n = 0 <;> by_cases he : e = 0 <;> cases b <;> simp [hn, ht, he]
  by_cases k1 : k = 1
  · subst k1
    by_cases ht : by_ t = []
    · have hz : t.size = 0 := by rw [← hl, ht]; rfl
      by_cases hn : n = 0 <;> by_cases he : e = 0 <;> cases b <;> simp [hn, ht, he, hz, validD_nil]
    · by_cases hn : n = 0 <;> by_cases he : e = 0 <;> cases b <;> simp [hn, ht, he]
  by_cases k2 : k = 2
  · subst k2
    by_cases hz : t.size ≤ 200
    · have hz2 : (t.size : Int) ≤ 200 := by omega
      by_cases hn : n = 0 <;> by_cases he : e = 0 <;> cases b <;> simp [hn, he, hz, hz2]
    · have hz2 : ¬ (t.size : Int) ≤ 200 := by omega
      by_cases hn : n = 0 <;> by_cases he : e = 0 <;> cases b <;> simp [hn, he, hz, hz2]
  by_cases k3 : k = 3
  · subst k3
    by_cases ht : by_ t = []
    · have hz : t.size = 0 := by rw [← hl, ht]; rfl
      by_cases hn : n = 0 <;> by_cases he : e = 0 <;> cases b <;> simp [hn, ht, he, hz, validD_nil]
    · by_cases hn : n = 0 <;> by_cases he : e = 0 <;> cases b <;> simp [hn, ht, he]
  by_cases k4 : k = 4
  · subst k4
    by_cases g : 1 ≤ e ∧ e ≤ 7
    · have hb : ¬ by_ nm = [] := fun h => (h2.1 h) g
      by_cases ht : by_ t = []
      · have hz : t.size = 0 := by rw [← hl, ht]; rfl
        by_cases hn : n = 0 <;> cases b <;> simp [hn, ht, hb, hz, validD_nil, g]
      · by_cases hn : n = 0 <;> cases b <;> simp [hn, ht, hb, g]
    · have hb : by_ nm = [] := h2.2 g
      simp [hb, g]
  · simp [k0, k1, k2, k3, k4]
theorem refMay_f (K : Nat) (k n : Int) (t : ByteArray) (b : Bool) (e : Int) (hs : t.size ≤ 100000) (hK : 10 * t.size + 20 ≤ K) : counterpaneref1_May.f K k n t b e = some (mayS (k, n, t, b, e)) := by
  obtain ⟨K, rfl⟩ : ∃ m, K = m + 2 := ⟨K - 2, by omega⟩
  have hv := utf8_f t hs K (by omega)
  unfold counterpaneref1_May.f mayS
  simp only [counterpaneref1_May.j0, counterpaneref1_May.j1, hv, Option.bind_some, to_by]
  by_cases k0 : k = 0
  · subst k0
    by_cases ht : by_ t = [] <;> by_cases hn : n = 0 <;> by_cases he : e = 0 <;> cases b <;> simp [hn, ht, he]
  by_cases k1 : k = 1
  · subst k1
    by_cases ht : by_ t = [] <;> by_cases hn : n = 0 <;> by_cases he : e = 0 <;> cases b <;> simp [hn, ht, he]
  by_cases k2 : k = 2
  · subst k2
    by_cases hz : t.size ≤ 200
    · have hz2 : (t.size : Int) ≤ 200 := by omega
      by_cases hn : n = 0 <;> by_cases he : e = 0 <;> cases b <;> simp [hn, he, hz, hz2]
    · have hz2 : ¬ (t.size : Int) ≤ 200 := by omega
      by_cases hn : n = 0 <;> by_cases he : e = 0 <;> cases b <;> simp [hn, he, hz, hz2]
  by_cases k3 : k = 3
  · subst k3
    by_cases ht : by_ t = [] <;> by_cases hn : n = 0 <;> by_cases he : e = 0 <;> cases b <;> simp [hn, ht, he]
  by_cases k4 : k = 4
  · subst k4
    by_cases g : 1 ≤ e
    · by_cases g2 : e ≤ 7 <;> by_cases ht : by_ t = [] <;> by_cases hn : n = 0 <;> cases b <;> simp [hn, ht, g, g2]
    · by_cases ht : by_ t = [] <;> by_cases hn : n = 0 <;> cases b <;> simp [hn, ht, g]
  · by_cases ht : by_ t = [] <;> by_cases hn : n = 0 <;> by_cases he : e = 0 <;> cases b <;> simp [hn, ht, he, k0, k1, k2, k3, k4]
theorem may_def (k n : Int) (t : ByteArray) (b : Bool) (e : Int) (h : mayS (k, n, t, b, e) = true) :
    (k = 0 ∧ n = 0 ∧ by_ t = [] ∧ b = false ∧ e = 0) ∨ (k = 1 ∧ by_ t = [] ∧ b = false ∧ e = 0) ∨ (k = 2 ∧ n = 0 ∧ b = false ∧ e = 0 ∧ t.size ≤ 200) ∨ (k = 3 ∧ n = 0 ∧ by_ t = [] ∧ e = 0) ∨ (k = 4 ∧ n = 0 ∧ by_ t = [] ∧ b = false ∧ 1 ≤ e ∧ e ≤ 7) := by
  unfold mayS at h
  simp only [Bool.and_eq_true, Bool.or_eq_true, decide_eq_true_eq, Bool.not_eq_true'] at h
  obtain ⟨⟨⟨⟨h1, h2⟩, h3⟩, h4⟩, h5⟩ := h
  rcases h5 with (h5 | h5) | h5
  · rcases h5 with h5 | h5 | h5 <;> subst h5 <;> simp_all
  · obtain ⟨h5, h6, h7⟩ := h5
    subst h5; simp_all
  · obtain ⟨h5, h6⟩ := h5
    subst h5; simp_all
theorem empty_by {t : ByteArray} (h : by_ t = []) : t = ByteArray.empty := by_inj (h.trans rfl)
end Go.Proofs.YtfnbflhoaemmeaaGreatDoor.EVal
end
section
namespace Go.Proofs.YtfnbflhoaemmeaaGreatDoor.Ext
open Go.RowKit Go.Lib Go.Proofs.YtfnbflhoaemmeaaGreatDoorW.PrintWords Go.Proofs.YtfnbflhoaemmeaaGreatDoor.EFxA Go.Proofs.YtfnbflhoaemmeaaGreatDoor.EFix
set_option linter.unusedVariables false
end Go.Proofs.YtfnbflhoaemmeaaGreatDoor.Ext
namespace Go.Proofs.YtfnbflhoaemmeaaGreatDoor.EVal
open Go.RowKit Go.Lib Go.Proofs.YtfnbflhoaemmeaaGreatDoorW.PrintWords Go.Proofs.YtfnbflhoaemmeaaGreatDoorW.PrintLast Go.Proofs.YtfnbflhoaemmeaaGreatDoor.Ext Go.Proofs.YtfnbflhoaemmeaaGreatDoor.EFxA Go.Proofs.YtfnbflhoaemmeaaGreatDoor.EFix
theorem nat_wf2 {a : Int} (h : (Lit.int .i64 a).wf = true) : -9223372036854775808 ≤ a ∧ a ≤ 9223372036854775807 := by
  simp [Lit.wf, IntKind.min, IntKind.max, IntKind.signed, IntKind.bits] at h
  omega
theorem cut_f (k n : Int) (s : ByteArray) (b : Bool) (e : Int) : ∃ t, counterpanelaw2_Cut.f k n s b e = some (k, n, t, b, e) ∧ t.size ≤ 250 := by
  unfold counterpanelaw2_Cut.f
  by_cases c : (s.size : Int) > 250
  · rw [if_pos c, if_pos (by decide), if_pos (by omega)]
    exact ⟨_, rfl, by rw [ByteArray.size_extract]; omega⟩
  · rw [if_neg c]
    exact ⟨_, rfl, by omega⟩
end Go.Proofs.YtfnbflhoaemmeaaGreatDoor.EVal
namespace Go.Proofs.YtfnbflhoaemmeaaGreatDoor.EVal
open Go.RowKit Go.Lib Go.Proofs.YtfnbflhoaemmeaaGreatDoorW.PrintWords Go.Proofs.YtfnbflhoaemmeaaGreatDoorW.PrintLast Go.Proofs.YtfnbflhoaemmeaaGreatDoorW.PrintMore Go.Proofs.YtfnbflhoaemmeaaGreatDoor.Ext Go.Proofs.YtfnbflhoaemmeaaGreatDoor.EFxA Go.Proofs.YtfnbflhoaemmeaaGreatDoor.EFix
attribute [local go_sem] max2_int min2_int max_two min_two max_three min_three max_four min_four
set_option linter.unusedVariables false
set_option linter.unusedSimpArgs false
def numS (v : V5) : Int × Int := if mayS v = true then (if v.1 = 1 then (v.2.1, 0) else if v.1 = 3 then (if v.2.2.2.1 = true then (10000, 0) else (0, 0)) else if v.1 = 2 then (if (parseS (by_ v.2.2.1)).2 = true then ((parseS (by_ v.2.2.1)).1, 0) else (0, 5)) else if v.1 = 4 then (0, v.2.2.2.2) else (0, 0)) else (0, 5)
def txtS (p : ByteArray) (v : V5) : ByteArray × Int := if mayS v = true then (if v.1 = 1 then (p, 0) else if v.1 = 3 then (if v.2.2.2.1 = true then ((⟨#[84, 82, 85, 69]⟩ : ByteArray), 0) else ((⟨#[70, 65, 76, 83, 69]⟩ : ByteArray), 0)) else if v.1 = 2 then (v.2.2.1, 0) else if v.1 = 4 then ((⟨#[]⟩ : ByteArray), v.2.2.2.2) else ((⟨#[]⟩ : ByteArray), 0)) else ((⟨#[]⟩ : ByteArray), 5)
theorem wrong_f (k n : Int) (t : ByteArray) (b : Bool) (e : Int) (hs : t.size ≤ 1000) : value_wrong.f k n t b e = some (if mayS (k, n, t, b, e) = true then (if k = 4 then e else 0) else 5) := by
  unfold value_wrong.f
  rw [may_f _ _ _ _ _ (by omega), Option.bind_some]
  split
  · split <;> rfl
  · rfl
theorem number_f (k n : Int) (t : ByteArray) (b : Bool) (e : Int) (hs : t.size ≤ 1000) : value_Number.f k n t b e = some (numS (k, n, t, b, e)) := by
  unfold value_Number.f numS
  rw [wrong_f k n t b e hs, Option.bind_some]
  have hi : fixnum_Int.f 1 = some (10000, true) := by unfold fixnum_Int.f; rw [if_neg (by decide), if_neg (by decide), wr _ (by decide) (by decide)]; rfl
  by_cases g : mayS (k, n, t, b, e) = true
  · rw [if_pos g, if_pos g]
    rcases may_def _ _ _ _ _ g with ⟨d0, d1, d2, d3, d4⟩ | ⟨d0, d2, d3, d4⟩ | ⟨d0, d1, d3, d4, d5⟩ | ⟨d0, d1, d2, d4⟩ | ⟨d0, d1, d2, d3, d4⟩
    · subst d0; simp
    · subst d0; simp
    · subst d0
      simp only [parse_f t (by omega), Option.bind_some]
      simp
      split <;> rfl
    · subst d0
      rw [hi]
      cases b <;> simp
    · subst d0
      have : e > 0 := by omega
      simp [this]
  · rw [if_neg g, if_neg g]; simp
theorem text_f (k n : Int) (t : ByteArray) (b : Bool) (e : Int) (p : ByteArray) (hp : fixnum_Print.f n = some p) (hs : t.size ≤ 1000) : value_Text.f k n t b e = some (txtS p (k, n, t, b, e)) := by
  unfold value_Text.f txtS
  rw [wrong_f k n t b e hs, Option.bind_some, hp]
  by_cases g : mayS (k, n, t, b, e) = true
  · rw [if_pos g, if_pos g]
    rcases may_def _ _ _ _ _ g with ⟨d0, d1, d2, d3, d4⟩ | ⟨d0, d2, d3, d4⟩ | ⟨d0, d1, d3, d4, d5⟩ | ⟨d0, d1, d2, d4⟩ | ⟨d0, d1, d2, d3, d4⟩
    · subst d0
      have := empty_by d2
      subst this
      simp; rfl
    · subst d0; simp
    · subst d0; simp
    · subst d0; cases b <;> simp
    · subst d0
      have : e > 0 := by omega
      simp [this]
  · rw [if_neg g, if_neg g]; simp
end Go.Proofs.YtfnbflhoaemmeaaGreatDoor.EVal
end
section
namespace Go.Proofs.YtfnbflhoaemmeaaGreatDoor.Ext
open Go.RowKit Go.Lib Go.Proofs.YtfnbflhoaemmeaaGreatDoorW.PrintWords Go.Proofs.YtfnbflhoaemmeaaGreatDoor.EFxA Go.Proofs.YtfnbflhoaemmeaaGreatDoor.EFix
def div_.f (a0 a1 : Int) : Option (Int × Bool) := if (-9223372036854775808 ≤ a0 ∧ a0 ≤ 9223372036854775807) ∧ -9223372036854775808 ≤ a1 ∧ a1 ≤ 9223372036854775807 then some (divS a0 a1) else none
theorem div_.calls (a0 a1 r1 : Int) (r2 : Bool) (w : World) (h : div_.f a0 a1 = some (r1, r2)) :
    Calls Tryz.prog 85 #[.int .i64 a0, .int .i64 a1] w fun e w' => e = .returned (.tuple #[.int .i64 r1, .bool r2]) ∧ Drawn0 w w' := by
  unfold div_.f at h
  by_cases hs : (-9223372036854775808 ≤ a0 ∧ a0 ≤ 9223372036854775807) ∧ -9223372036854775808 ≤ a1 ∧ a1 ≤ 9223372036854775807
  · rw [if_pos hs] at h
    have c := div_calls a0 a1 hs.1 hs.2 w
    rw [Option.some.inj h] at c
    exact c
  · rw [if_neg hs] at h; cases h
end Go.Proofs.YtfnbflhoaemmeaaGreatDoor.Ext
end
section
namespace Go.Proofs.YtfnbflhoaemmeaaGreatDoor.EBui
open Go.RowKit Go.Proofs.YtfnbflhoaemmeaaGreatDoor.Ext Go.Proofs.YtfnbflhoaemmeaaGreatDoor.EFxA Go.Proofs.YtfnbflhoaemmeaaGreatDoor.EFix Go.Proofs.YtfnbflhoaemmeaaGreatDoor.EVal Go.Proofs.YtfnbflhoaemmeaaGreatDoorW.PrintWords Go.Proofs.YtfnbflhoaemmeaaGreatDoorW.PrintLast Go.Proofs.YtfnbflhoaemmeaaGreatDoorW.PrintMore
attribute [local go_sem] max2_int min2_int max_two min_two max_three min_three max_four min_four   
set_option linter.unusedVariables false
set_option linter.unusedSimpArgs false
def errW : Option Int → Value
  | none => .nilIface
  | some c => .iface 0 (.int .i64 c)
theorem errW_none : errW none = .nilIface := rfl
theorem errW_some (c : Int) : errW (some c) = .iface 0 (.int .i64 c) := rfl
theorem info22 : (Tryz.prog.info? 22).map (fun i => (i.zero, i.size, i.bytes)) = some (some (.int .i64 0), 1, 8) := by kernel_rfl
structure S44 where
  f0 : Bool
  f1 : (List S24)
def z44 : S44 := ⟨false, ([] : List S24)⟩
def k44 : Kd S44 := Kd.iso (Kd.pair Kd.bool (Kd.slice 24 k24)) (fun x : S44 => (x.f0, x.f1))
theorem k44_open {w : World} {x : S44} {cs : List Value} (h : k44.K w x cs) : ∃ A1 c1, cs = [.bool x.f0, .slice A1 x.f1.length c1] ∧ x.f1.length ≤ c1 ∧ k24.C w A1 x.f1.length x.f1 := by
  obtain ⟨_, _, rfl, rfl, ⟨A1, c1, rfl, l1, g1⟩⟩ := h
  exact ⟨A1, c1, rfl, l1, g1⟩
theorem k44_mk (w : World) (x : S44) {A1 : Option Addr} {c1 : Nat} (l1 : x.f1.length ≤ c1) (g1 : k24.C w A1 x.f1.length x.f1) : k44.K w x [.bool x.f0, .slice A1 x.f1.length c1] := ⟨[.bool x.f0], [.slice A1 x.f1.length c1], rfl, rfl, ⟨A1, c1, rfl, l1, g1⟩⟩
theorem k44_mkF (W : World) (ok : Nat → Prop) (x : S44) {A1 : Option Addr} {c1 : Nat} (l1 : x.f1.length ≤ c1) (g1 : Kd.F k24 W ok A1 x.f1.length x.f1) : Kd.FK k44 W ok x [.bool x.f0, .slice A1 x.f1.length c1] := fun W2 hW => k44_mk W2 x l1 (g1 W2 hW)
def rd_T44 (xs : List S44) (i : Int) : S44 := xs.getD i.toNat z44
theorem at_T44 {w : World} {A : Option Addr} {n : Nat} {xs : List S44} (h : Kd.C k44 w A n xs) (i : Int) (h0 : 0 ≤ i) (h1 : i < n) : ∃ ad A1 c1, A = some ad ∧ w.cell? (ad.add (i.toNat * 2)) = some (.bool (rd_T44 xs i).f0) ∧ w.cell? ⟨(ad.add (i.toNat * 2)).block, (ad.add (i.toNat * 2)).off + 1, none⟩ = some (.slice A1 (rd_T44 xs i).f1.length c1) ∧ (rd_T44 xs i).f1.length ≤ c1 ∧ k24.C w A1 (rd_T44 xs i).f1.length (rd_T44 xs i).f1 := by
  obtain ⟨ad, c, e, _, hK, hc0⟩ := Kd.C_get h z44 i h0 h1
  have hc : ∀ j u, c[j]? = some u → w.cell? (ad.add (i.toNat * 2 + j)) = some u := hc0
  obtain ⟨A1, c1, rfl, l1, g1⟩ := k44_open hK
  exact ⟨ad, A1, c1, e, hc 0 _ rfl, by rw [← add_field _ _ 1 (by omega)]; exact hc 1 _ rfl, l1, g1⟩
end Go.Proofs.YtfnbflhoaemmeaaGreatDoor.EBui
end
section
namespace Go.Proofs.YtfnbflhoaemmeaaGreatDoor.EBui
open Go.RowKit Go.Proofs.YtfnbflhoaemmeaaGreatDoor.Ext Go.Proofs.YtfnbflhoaemmeaaGreatDoor.EFxA Go.Proofs.YtfnbflhoaemmeaaGreatDoor.EFix Go.Proofs.YtfnbflhoaemmeaaGreatDoor.EVal Go.Proofs.YtfnbflhoaemmeaaGreatDoorW.PrintWords Go.Proofs.YtfnbflhoaemmeaaGreatDoorW.PrintLast Go.Proofs.YtfnbflhoaemmeaaGreatDoorW.PrintMore
attribute [local go_sem] max2_int min2_int max_two min_two max_three min_three max_four min_four   
set_option linter.unusedVariables false
set_option linter.unusedSimpArgs false
end Go.Proofs.YtfnbflhoaemmeaaGreatDoor.EBui
end
section
namespace Go.Proofs.YtfnbflhoaemmeaaGreatDoor.EBui
open Go.RowKit Go.Proofs.YtfnbflhoaemmeaaGreatDoor.Ext Go.Proofs.YtfnbflhoaemmeaaGreatDoor.EFxA Go.Proofs.YtfnbflhoaemmeaaGreatDoor.EFix Go.Proofs.YtfnbflhoaemmeaaGreatDoor.EVal Go.Proofs.YtfnbflhoaemmeaaGreatDoorW.PrintWords Go.Proofs.YtfnbflhoaemmeaaGreatDoorW.PrintLast Go.Proofs.YtfnbflhoaemmeaaGreatDoorW.PrintMore
attribute [local go_sem] max2_int min2_int max_two min_two max_three min_three max_four min_four   
set_option linter.unusedVariables false
set_option linter.unusedSimpArgs false
attribute [local go_sem high] eqA24
def builtin_failed.f (a0 : Int) : Option (Int × Int × ByteArray × Bool × Int) := some (4, 0, (⟨#[]⟩ : ByteArray), false, a0)
set_option maxHeartbeats 8000000 in
set_option maxRecDepth 100000 in
theorem builtin_failed.calls (a0 : Int) (r1 : Int) (r2 : Int) (r3 : ByteArray) (r4 : Bool) (r5 : Int) (w : World) (h : builtin_failed.f a0 = some (r1, r2, r3, r4, r5)) :
    Calls Tryz.prog 54 #[.int .i64 a0] w fun e w' => e = .returned (.agg #[.int .i64 r1, .int .i64 r2, .string r3, .bool r4, .int .i64 r5]) ∧ Below w.heap.size w w' := by
  have hu24 := Tryz.underlying24
  have HB := Aside0.mk (Below.refl w.heap.size w)
  have H : (some (4, 0, (⟨#[]⟩ : ByteArray), false, a0)) = some (r1, r2, r3, r4, r5) := h
  clear h
  simp only [Option.some.injEq, Prod.mk.injEq] at H
  obtain ⟨rfl, rfl, rfl, rfl, rfl⟩ := H
  go_enter Tryz.func54, Tryz.ntmps54
  go_wp2_with (first | ((with_reducible refine gate_dst (N := 2) rfl ?_); refine box_event ?hg (N := 2) ?hd (cs := #[.int .i64 0, .int .i64 0, .string (⟨#[]⟩ : ByteArray), .bool false, .int .i64 0]) (t := 24) ?hr ?_; (case hd => rfl); (case hg => rfl); (case hr => first | (go_simp; done) | (go_simp; rfl)); intro gb109 hg w2 hbox hb; have n0_ := Aside0.mk (below_step (by repeat (first | (with_reducible first | exact HB.out | apply below_alloc | apply pw_below_drewN | apply below_drew1) | exact HB.out)) hb); have n1_ := Aside0.mk (hbox); have n2_ := Aside0.mk ((by rw [hg]; exact (below_size (by repeat (first | (with_reducible first | exact HB.out | apply below_alloc | apply pw_below_drewN | apply below_drew1) | exact HB.out))) : w.heap.size ≤ gb109)); have n3_ := Aside0.mk ((by rw [hg]; exact (below_size (by repeat (first | (with_reducible first | exact HB.out | apply below_alloc | apply pw_below_drewN | apply below_drew1) | exact HB.out))) : w.heap.size ≤ gb109)); clear HB; have HB := n0_; have BK109 := n1_; have GW109 := n2_; have GE109 := n3_; clear n0_ n1_ n2_ n3_; clear hb hbox hg; have hcz3_0 : w2.cell? ⟨gb109, 0, none⟩ = some (.int .i64 0) := (blk_cell BK109.out 0).trans rfl; have hcz3_1 : w2.cell? ⟨gb109, 1, none⟩ = some (.int .i64 0) := (blk_cell BK109.out 1).trans rfl; have hcz3_2 : w2.cell? ⟨gb109, 2, none⟩ = some (.string (⟨#[]⟩ : ByteArray)) := (blk_cell BK109.out 2).trans rfl; have hcz3_3 : w2.cell? ⟨gb109, 3, none⟩ = some (.bool false) := (blk_cell BK109.out 3).trans rfl; have hcz3_4 : w2.cell? ⟨gb109, 4, none⟩ = some (.int .i64 0) := (blk_cell BK109.out 4).trans rfl; have hfz3_0 := blk_frozen BK109.out 0; have hfz3_1 := blk_frozen BK109.out 1; have hfz3_2 := blk_frozen BK109.out 2; have hfz3_3 := blk_frozen BK109.out 3; have hfz3_4 := blk_frozen BK109.out 4))
  refine bodyPost_ret (results_cell_row rfl _ _ gb109 24 #[.int .i64 4, .int .i64 0, .string (⟨#[]⟩ : ByteArray), .bool false, .int .i64 a0] (0, 0) _ rfl (by (with_reducible repeat (first | refine blk_drewN ?_ _ | refine blk_drew ?_ | refine blk_alloc ?_ _)); refine blk_put (cs := #[.int .i64 4, .int .i64 0, .string (⟨#[]⟩ : ByteArray), .bool false, .int .i64 0]) ?_ 4 _ rfl; (with_reducible repeat (first | refine blk_drewN ?_ _ | refine blk_drew ?_ | refine blk_alloc ?_ _)); refine blk_put (cs := #[.int .i64 4, .int .i64 0, .string (⟨#[]⟩ : ByteArray), .bool false, .int .i64 0]) ?_ 3 _ rfl; (with_reducible repeat (first | refine blk_drewN ?_ _ | refine blk_drew ?_ | refine blk_alloc ?_ _)); refine blk_put (cs := #[.int .i64 4, .int .i64 0, .string (⟨#[]⟩ : ByteArray), .bool false, .int .i64 0]) ?_ 2 _ rfl; (with_reducible repeat (first | refine blk_drewN ?_ _ | refine blk_drew ?_ | refine blk_alloc ?_ _)); refine blk_put (cs := #[.int .i64 4, .int .i64 0, .string (⟨#[]⟩ : ByteArray), .bool false, .int .i64 0]) ?_ 1 _ rfl; (with_reducible repeat (first | refine blk_drewN ?_ _ | refine blk_drew ?_ | refine blk_alloc ?_ _)); refine blk_put (cs := #[.int .i64 0, .int .i64 0, .string (⟨#[]⟩ : ByteArray), .bool false, .int .i64 0]) ?_ 0 _ rfl; (with_reducible repeat (first | refine blk_drewN ?_ _ | refine blk_drew ?_ | refine blk_alloc ?_ _)); exact BK109.out) Tryz.underlying24 rfl (by kernel_rfl)) rfl ?_
  exact ⟨by first | rfl | (simp [errW_none, errW_some] <;> rfl) | (simp [*, errW_none, errW_some] <;> rfl) | (simp [*, errW_none, errW_some] <;> (generalize ByteArray.toList _ = l_; cases l_ <;> rfl)), by repeat (first | (with_reducible first | exact HB.out | apply below_alloc | apply pw_below_drewN | apply below_drew1 | refine below_set ?_ GE109.out) | exact HB.out)⟩
end Go.Proofs.YtfnbflhoaemmeaaGreatDoor.EBui
end
section
namespace Go.Proofs.YtfnbflhoaemmeaaGreatDoor.EBui
open Go.RowKit Go.Proofs.YtfnbflhoaemmeaaGreatDoor.Ext Go.Proofs.YtfnbflhoaemmeaaGreatDoor.EFxA Go.Proofs.YtfnbflhoaemmeaaGreatDoor.EFix Go.Proofs.YtfnbflhoaemmeaaGreatDoor.EVal Go.Proofs.YtfnbflhoaemmeaaGreatDoorW.PrintWords Go.Proofs.YtfnbflhoaemmeaaGreatDoorW.PrintLast Go.Proofs.YtfnbflhoaemmeaaGreatDoorW.PrintMore
attribute [local go_sem] max2_int min2_int max_two min_two max_three min_three max_four min_four   
set_option linter.unusedVariables false
set_option linter.unusedSimpArgs false
def builtin_number.f (a0 : Int) : Option (Int × Int × ByteArray × Bool × Int) := some (1, a0, (⟨#[]⟩ : ByteArray), false, 0)
set_option maxHeartbeats 8000000 in
set_option maxRecDepth 100000 in
theorem builtin_number.calls (a0 : Int) (r1 : Int) (r2 : Int) (r3 : ByteArray) (r4 : Bool) (r5 : Int) (w : World) (h : builtin_number.f a0 = some (r1, r2, r3, r4, r5)) :
    Calls Tryz.prog 82 #[.int .i64 a0] w fun e w' => e = .returned (.agg #[.int .i64 r1, .int .i64 r2, .string r3, .bool r4, .int .i64 r5]) ∧ Below w.heap.size w w' := by
  have hu24 := Tryz.underlying24
  have HB := Aside0.mk (Below.refl w.heap.size w)
  have H : (some (1, a0, (⟨#[]⟩ : ByteArray), false, 0)) = some (r1, r2, r3, r4, r5) := h
  clear h
  simp only [Option.some.injEq, Prod.mk.injEq] at H
  obtain ⟨rfl, rfl, rfl, rfl, rfl⟩ := H
  go_enter Tryz.func82, Tryz.ntmps82
  go_wp2_with (first | ((with_reducible refine gate_dst (N := 2) rfl ?_); refine box_event ?hg (N := 2) ?hd (cs := #[.int .i64 0, .int .i64 0, .string (⟨#[]⟩ : ByteArray), .bool false, .int .i64 0]) (t := 24) ?hr ?_; (case hd => rfl); (case hg => rfl); (case hr => first | (go_simp; done) | (go_simp; rfl)); intro gb113 hg w2 hbox hb; have n0_ := Aside0.mk (below_step (by repeat (first | (with_reducible first | exact HB.out | apply below_alloc | apply pw_below_drewN | apply below_drew1) | exact HB.out)) hb); have n1_ := Aside0.mk (hbox); have n2_ := Aside0.mk ((by rw [hg]; exact (below_size (by repeat (first | (with_reducible first | exact HB.out | apply below_alloc | apply pw_below_drewN | apply below_drew1) | exact HB.out))) : w.heap.size ≤ gb113)); have n3_ := Aside0.mk ((by rw [hg]; exact (below_size (by repeat (first | (with_reducible first | exact HB.out | apply below_alloc | apply pw_below_drewN | apply below_drew1) | exact HB.out))) : w.heap.size ≤ gb113)); clear HB; have HB := n0_; have BK113 := n1_; have GW113 := n2_; have GE113 := n3_; clear n0_ n1_ n2_ n3_; clear hb hbox hg; have hcz3_0 : w2.cell? ⟨gb113, 0, none⟩ = some (.int .i64 0) := (blk_cell BK113.out 0).trans rfl; have hcz3_1 : w2.cell? ⟨gb113, 1, none⟩ = some (.int .i64 0) := (blk_cell BK113.out 1).trans rfl; have hcz3_2 : w2.cell? ⟨gb113, 2, none⟩ = some (.string (⟨#[]⟩ : ByteArray)) := (blk_cell BK113.out 2).trans rfl; have hcz3_3 : w2.cell? ⟨gb113, 3, none⟩ = some (.bool false) := (blk_cell BK113.out 3).trans rfl; have hcz3_4 : w2.cell? ⟨gb113, 4, none⟩ = some (.int .i64 0) := (blk_cell BK113.out 4).trans rfl; have hfz3_0 := blk_frozen BK113.out 0; have hfz3_1 := blk_frozen BK113.out 1; have hfz3_2 := blk_frozen BK113.out 2; have hfz3_3 := blk_frozen BK113.out 3; have hfz3_4 := blk_frozen BK113.out 4))
  refine bodyPost_ret (results_cell_row rfl _ _ gb113 24 #[.int .i64 1, .int .i64 a0, .string (⟨#[]⟩ : ByteArray), .bool false, .int .i64 0] (0, 0) _ rfl (by (with_reducible repeat (first | refine blk_drewN ?_ _ | refine blk_drew ?_ | refine blk_alloc ?_ _)); refine blk_put (cs := #[.int .i64 1, .int .i64 a0, .string (⟨#[]⟩ : ByteArray), .bool false, .int .i64 0]) ?_ 4 _ rfl; (with_reducible repeat (first | refine blk_drewN ?_ _ | refine blk_drew ?_ | refine blk_alloc ?_ _)); refine blk_put (cs := #[.int .i64 1, .int .i64 a0, .string (⟨#[]⟩ : ByteArray), .bool false, .int .i64 0]) ?_ 3 _ rfl; (with_reducible repeat (first | refine blk_drewN ?_ _ | refine blk_drew ?_ | refine blk_alloc ?_ _)); refine blk_put (cs := #[.int .i64 1, .int .i64 a0, .string (⟨#[]⟩ : ByteArray), .bool false, .int .i64 0]) ?_ 2 _ rfl; (with_reducible repeat (first | refine blk_drewN ?_ _ | refine blk_drew ?_ | refine blk_alloc ?_ _)); refine blk_put (cs := #[.int .i64 1, .int .i64 0, .string (⟨#[]⟩ : ByteArray), .bool false, .int .i64 0]) ?_ 1 _ rfl; (with_reducible repeat (first | refine blk_drewN ?_ _ | refine blk_drew ?_ | refine blk_alloc ?_ _)); refine blk_put (cs := #[.int .i64 0, .int .i64 0, .string (⟨#[]⟩ : ByteArray), .bool false, .int .i64 0]) ?_ 0 _ rfl; (with_reducible repeat (first | refine blk_drewN ?_ _ | refine blk_drew ?_ | refine blk_alloc ?_ _)); exact BK113.out) Tryz.underlying24 rfl (by kernel_rfl)) rfl ?_
  exact ⟨by first | rfl | (simp [errW_none, errW_some] <;> rfl) | (simp [*, errW_none, errW_some] <;> rfl) | (simp [*, errW_none, errW_some] <;> (generalize ByteArray.toList _ = l_; cases l_ <;> rfl)), by repeat (first | (with_reducible first | exact HB.out | apply below_alloc | apply pw_below_drewN | apply below_drew1 | refine below_set ?_ GE113.out) | exact HB.out)⟩
def builtin_extreme.l0 : Nat → Bool → Int → List Int → Int → Int → Option (Int)
  | 0, _, _, _, _, _ => none
  | k + 1, x1, x5, x8, x9, x10 => if x10 < x9 then (if 0 ≤ x10 then (if x10 < (x8.length : Int) then (if x10 = 0 then (builtin_extreme.l0 k x1 (rd x8 x10) x8 x9 (wrap64 (x10 + 1))) else (if ((decide ((rd x8 x10) > x5)) == x1) = true then (builtin_extreme.l0 k x1 (rd x8 x10) x8 x9 (wrap64 (x10 + 1))) else (builtin_extreme.l0 k x1 x5 x8 x9 (wrap64 (x10 + 1))))) else (none)) else (none)) else (some x5)
def builtin_extreme.f (k : Nat) (l0 : List Int) (a1 : Bool) : Option (Int) := builtin_extreme.l0 k a1 0 l0 (l0.length : Int) 0
set_option maxHeartbeats 8000000 in
set_option maxRecDepth 100000 in
theorem builtin_extreme.calls (k : Nat) (A0 : Option Addr) (c0 : Nat) (l0 : List Int) (a1 : Bool) (r : Int) (w : World) (hr0 : Kd.C (Kd.int .i64) w A0 l0.length l0) (hc0 : l0.length ≤ c0) (h : builtin_extreme.f k l0 a1 = some r) :
    Calls Tryz.prog 83 #[.slice A0 l0.length c0, .bool a1] w fun e w' => e = .returned (.int .i64 r) ∧ Drawn0 w w' := by
  have HR0 := Aside0.mk hr0
  have HC0 := Aside0.mk hc0
  clear hr0 hc0
  have H : (builtin_extreme.l0 k a1 0 l0 (l0.length : Int) 0) = some r := h
  clear h
  have H' := Aside0.mk H
  clear H
  go_enter Tryz.func83, Tryz.ntmps83
  go_wp2
  go_loopg [5, 10] k (fun kq v5 v10 w' => ∃ (x5_1 : Int) (x10_1 : Int), v5 = .int .i64 x5_1 ∧ v10 = .int .i64 x10_1 ∧ Aside0 (builtin_extreme.l0 kq a1 x5_1 l0 (l0.length : Int) x10_1 = some r) ∧ Aside0 (kq ≤ k) ∧ Drawn0 w w')
  case atStart => exact ⟨(0), (0), (by first | rfl | (simp; done) | (simp [*]; done)), (by first | rfl | (simp; done) | (simp [*]; done)), H', ⟨Nat.le_refl _⟩, by repeat (first | exact Drawn0.refl _ | apply Drawn0.step)⟩
  case round =>
    clear H'
    try clear p2
    obtain ⟨x5_1, x10_1, rfl, rfl, HA, HK1, ⟨m1, rfl⟩⟩ := hrel
    cases gk with
    | zero => exact absurd HA.out (by simp [builtin_extreme.l0])
    | succ k1 =>
      have H := HA.out
      clear HA
      simp only [builtin_extreme.l0] at H
      by_cases c3 : x10_1 < (l0.length : Int)
      · rw [if_pos c3] at H
        have c3b0 : decide (x10_1 < (l0.length : Int)) = true := decide_eq_true c3
        clear c3
        by_cases c4 : 0 ≤ x10_1
        · rw [if_pos c4] at H
          have c4b0 : decide (0 ≤ x10_1) = true := decide_eq_true c4
          clear c4
          by_cases c5 : x10_1 < (l0.length : Int)
          · rw [if_pos c5] at H
            have c5b0 : decide (x10_1 < (l0.length : Int)) = true := decide_eq_true c5
            clear c5
            by_cases c6 : x10_1 = 0
            · rw [if_pos c6] at H
              have c6b0 : (x10_1 == 0) = true := beq_iff_eq.mpr c6
              have c6b1 : (x10_1 != 0) = false := bne_eq_false_iff_eq.mpr c6
              clear c6
              have H' := Aside0.mk H
              clear H
              have p114 : 0 ≤ (x10_1 : Int) := of_decide_eq_true (by first | (with_reducible assumption) | assumption)
              have q114 : x10_1 < (l0.length : Int) := of_decide_eq_true (by first | (with_reducible assumption) | assumption)
              obtain ⟨ad114, e114, hx114_0⟩ := Kd.at_int HR0.out x10_1 p114 q114
              cases e114
              replace p114 := eq_true p114
              replace q114 := eq_true q114
              try (have q114z := q114; simp only [ByteArray.size_extract, Nat.min_self] at q114z)
              go_wp2
              go_roundg k1
              case measure => have := HK1.out; omega
              case rel => exact ⟨(rd l0 x10_1), (wrap64 (x10_1 + 1)), (by first | rfl | (simp; done) | (simp [*]; done)), (by first | rfl | (simp; done) | (simp [*]; done)), H', ⟨by have := HK1.out; omega⟩, by repeat (first | exact Drawn0.refl _ | apply Drawn0.step)⟩
            · rw [if_neg c6] at H
              have c6b0 : (x10_1 == 0) = false := beq_eq_false_iff_ne.mpr c6
              have c6b1 : (x10_1 != 0) = true := bne_iff_ne.mpr c6
              by_cases c7 : ((decide ((rd l0 x10_1) > x5_1)) == a1) = true
              · rw [if_pos c7] at H
                have c7b0 : ((decide ((rd l0 x10_1) > x5_1)) == a1) = true := c7
                (try (have c7b1 : decide ((decide ((rd l0 x10_1) > x5_1)) = a1) = true := by simpa using c7))
                (try (have c7b2 : ((decide ((rd l0 x10_1) > x5_1)) == a1) = true := by simpa using c7))
                clear c7
                have H' := Aside0.mk H
                clear H
                have p114 : 0 ≤ (x10_1 : Int) := of_decide_eq_true (by first | (with_reducible assumption) | assumption)
                have q114 : x10_1 < (l0.length : Int) := of_decide_eq_true (by first | (with_reducible assumption) | assumption)
                obtain ⟨ad114, e114, hx114_0⟩ := Kd.at_int HR0.out x10_1 p114 q114
                cases e114
                replace p114 := eq_true p114
                replace q114 := eq_true q114
                try (have q114z := q114; simp only [ByteArray.size_extract, Nat.min_self] at q114z)
                go_wp2
                go_roundg k1
                case measure => have := HK1.out; omega
                case rel => exact ⟨(rd l0 x10_1), (wrap64 (x10_1 + 1)), (by first | rfl | (simp; done) | (simp [*]; done)), (by first | rfl | (simp; done) | (simp [*]; done)), H', ⟨by have := HK1.out; omega⟩, by repeat (first | exact Drawn0.refl _ | apply Drawn0.step)⟩
              · rw [if_neg c7] at H
                have c7b0 : ((decide ((rd l0 x10_1) > x5_1)) == a1) = false := by simpa using c7
                (try (have c7b1 : decide ((decide ((rd l0 x10_1) > x5_1)) = a1) = false := by simpa using c7))
                (try (have c7b2 : ((decide ((rd l0 x10_1) > x5_1)) == a1) = false := by simpa using c7))
                (try (have c7b3 : ¬ ((decide ((rd l0 x10_1) > x5_1)) = a1) := by simpa using c7))
                clear c7
                have H' := Aside0.mk H
                clear H
                have p114 : 0 ≤ (x10_1 : Int) := of_decide_eq_true (by first | (with_reducible assumption) | assumption)
                have q114 : x10_1 < (l0.length : Int) := of_decide_eq_true (by first | (with_reducible assumption) | assumption)
                obtain ⟨ad114, e114, hx114_0⟩ := Kd.at_int HR0.out x10_1 p114 q114
                cases e114
                replace p114 := eq_true p114
                replace q114 := eq_true q114
                try (have q114z := q114; simp only [ByteArray.size_extract, Nat.min_self] at q114z)
                go_wp2
                go_roundg k1
                case measure => have := HK1.out; omega
                case rel => exact ⟨(x5_1), (wrap64 (x10_1 + 1)), (by first | rfl | (simp; done) | (simp [*]; done)), (by first | rfl | (simp; done) | (simp [*]; done)), H', ⟨by have := HK1.out; omega⟩, by repeat (first | exact Drawn0.refl _ | apply Drawn0.step)⟩
          · rw [if_neg c5] at H
            exact absurd H (by simp)
        · rw [if_neg c4] at H
          exact absurd H (by simp)
      · rw [if_neg c3] at H
        have c3b0 : decide (x10_1 < (l0.length : Int)) = false := decide_eq_false c3
        clear c3
        obtain rfl := Option.some.inj H
        go_wp2
        go_ret
        exact ⟨by first | rfl | (simp; done) | (simp [*]; done) | (simp; generalize ByteArray.toList _ = l_; cases l_ <;> rfl), by repeat (first | exact Drawn0.refl _ | apply Drawn0.step)⟩
end Go.Proofs.YtfnbflhoaemmeaaGreatDoor.EBui
end
