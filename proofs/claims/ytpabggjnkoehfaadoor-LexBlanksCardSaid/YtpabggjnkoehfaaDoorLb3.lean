/- Part 3 of what the claim's proof stands on: contracts of the program's functions, by walks, and plain laws. -/
import Derived.Test.YtpabggjnkoehfaaDoorLb2
import Derived.ArgAppend
import Derived.Below
import Derived.BigQuiet
import Derived.Deep.AppendLies
import Derived.Deep.CutBlock
import Derived.Deep.DeepCutAuto
import Derived.Deep.Draws
import Derived.Deep.LoopGhost
import Derived.Deep.OwnRows
import Derived.Deep.QuietTactic
import Derived.Deep.RegionHeld3
import Derived.KernelRfl
import Derived.Laws.BitsLemmas
import Derived.Laws.BytesArg
import Derived.Laws.IdiomCopy
import Derived.Laws.MakeOwn
import Derived.Laws.OwnMore
import Derived.Laws.Rows
import Derived.Laws.Slices
import Derived.Lay
import Derived.Lib.AppendStr
import Derived.Lib.Bytealg
import Derived.Lib.ConvBytes
import Derived.Lib.IndexMore
import Derived.Lib.LaidU8T
import Derived.Lib.ValidLaws
import Derived.Maps.AppendAt
import Derived.OrdersHeld
import Derived.OwnWalk
import Derived.RowKit
import Derived.RowKit3
import Derived.Tactics
import Derived.Test.YtpabggjnkoehfaaDoorProg
import Derived.WalkKit
import Derived.WideLaws
section
namespace Go.Proofs.YtpabggjnkoehfaaDoor.EWd
open Go.Shelf Go.RowKit Go.Sort Go.Lib Go.Proofs.YtpabggjnkoehfaaDoor.Ext Go.Proofs.YtpabggjnkoehfaaDoorW.PrintWords Go.Proofs.YtpabggjnkoehfaaDoorW.PrintLast Go.Proofs.YtpabggjnkoehfaaDoorW.PrintMore
attribute [local go_sem] max2_int min2_int max_two min_two max_three min_three max_four min_four
set_option linter.unusedVariables false
set_option linter.unusedSimpArgs false
def bs (x : ByteArray) : Lx.B := x.data.toList
theorem great_l (x : ByteArray) (hx : x.size ≤ 1000) (d : Nat) : ∀ k j : Nat, j + d = x.size → d + 1 ≤ k → lex_great.l0 k x (x.size : Int) (j : Int) = some (((bs x).drop j).all (fun c => decide (65 ≤ c) && decide (c ≤ 90)) && !(bs x).isEmpty) := by
  have hl : (bs x).length = x.size := by unfold bs; exact (Lib.size_eq x).symm
  induction d with
  | zero =>
    intro k j hj hk
    obtain ⟨k, rfl⟩ : ∃ m, k = m + 1 := ⟨k - 1, by omega⟩
    rw [lex_great.l0, if_neg (by omega), List.drop_of_length_le (by omega)]
    have : x.toList = bs x := by rw [ByteArray.toList_eq]; rfl
    rw [this]
    cases bs x <;> rfl
  | succ d ih =>
    intro k j hj hk
    obtain ⟨k, rfl⟩ : ∃ m, k = m + 1 := ⟨k - 1, by omega⟩
    have c : j < (bs x).length := by omega
    have hb : bt x (j : Int) = (((bs x)[j]).toNat : Int) := by
      unfold bt
      rw [dif_pos (by rw [Int.toNat_natCast]; omega)]
      rfl
    obtain ⟨e, he⟩ : ∃ e, (bs x)[j] = e := ⟨_, rfl⟩
    have e2 : wrap64 ((j : Int) + 1) = ((j + 1 : Nat) : Int) := by unfold wrap64; omega
    rw [lex_great.l0, if_pos (by omega), if_pos (by omega), if_pos (by omega), hb, he, List.drop_eq_getElem_cons c, he, List.all_cons]
    by_cases c1 : (e.toNat : Int) < 65
    · rw [if_pos c1]
      have : decide (65 ≤ e) = false := decide_eq_false (by rw [UInt8.le_iff_toNat_le]; show ¬ 65 ≤ e.toNat; omega)
      rw [this]; rfl
    · rw [if_neg c1]
      have g1 : decide (65 ≤ e) = true := decide_eq_true (by rw [UInt8.le_iff_toNat_le]; show 65 ≤ e.toNat; omega)
      by_cases c2 : (e.toNat : Int) > 90
      · rw [if_pos c2]
        have : decide (e ≤ 90) = false := decide_eq_false (by rw [UInt8.le_iff_toNat_le]; show ¬ e.toNat ≤ 90; omega)
        rw [this, g1]; rfl
      · rw [if_neg c2]
        have g2 : decide (e ≤ 90) = true := decide_eq_true (by rw [UInt8.le_iff_toNat_le]; show e.toNat ≤ 90; omega)
        rw [g1, g2, e2, ih k (j + 1) (by omega) (by omega)]
        rfl
theorem great_f (x : ByteArray) (hx : x.size ≤ 1000) : lex_great.f (x.size + 2) x = some (Lx.greatS (bs x)) := by
  have := great_l x hx x.size (x.size + 2) 0 (by omega) (by omega)
  rw [List.drop_zero] at this
  show lex_great.l0 _ x _ ((0 : Nat) : Int) = _
  rw [this]
  unfold Lx.greatS
  rw [Bool.and_comm]
set_option maxHeartbeats 4000000 in
set_option maxRecDepth 100000 in
theorem word_number (a0 a1 : ByteArray) (n1 : Int) (w : World) (hL : Aside0 (Lq w)) (A1 : Aside0 (fixnum_Parse.f a0 = some (n1, true))) :
    Calls Tryd.prog 42 #[.string a0, .string a1] w fun e w' => e = .returned (.int .i64 1) ∧ Below w.heap.size w w' := by
  have hu25 := Tryd.underlying25
  go_enter Tryd.func42, Tryd.ntmps42
  go_wp2_with (first
    | ((with_reducible refine gate_callee (f := 57) rfl ?_); refine goesL_ (some 11) rfl rfl Tryd.func57 (by kernel_rfl) rfl #[.string a0] rfl (by (try simp only [List.map_toArray, List.map_cons, List.map_nil]); first | done | rfl) ?_; (refine (fixnum_Parse.calls a0 n1 true _ hL A1.out).mono ?_); rintro e w1 ⟨rfl, HB1⟩; replace HB1 := Aside0.mk HB1; refine ⟨_, rfl, ?_⟩))
  go_ret
  exact ⟨rfl, (by repeat (first | (with_reducible first | exact HB1.out | apply below_set | apply below_alloc | apply pw_below_drewN | apply below_drew1) | exact HB1.out))⟩
set_option maxHeartbeats 4000000 in
set_option maxRecDepth 100000 in
theorem word_ref (a0 a1 : ByteArray) (n1 : Int) (b1 : ByteArray) (b2 b3 : Int) (b4 b5 : Bool) (w : World) (hL : Aside0 (Lq w)) (A1 : Aside0 (fixnum_Parse.f a0 = some (n1, false))) (A2 : Aside0 (a1p.f a0 = some (b1, b2, b3, b4, b5, true))) :
    Calls Tryd.prog 42 #[.string a0, .string a1] w fun e w' => e = .returned (.int .i64 3) ∧ Below w.heap.size w w' := by
  have hu25 := Tryd.underlying25
  go_enter Tryd.func42, Tryd.ntmps42
  go_wp2_with (first
    | ((with_reducible refine gate_callee (f := 57) rfl ?_); refine goesL_ (some 11) rfl rfl Tryd.func57 (by kernel_rfl) rfl #[.string a0] rfl (by (try simp only [List.map_toArray, List.map_cons, List.map_nil]); first | done | rfl) ?_; (refine (fixnum_Parse.calls a0 n1 false _ hL A1.out).mono ?_); rintro e w1 ⟨rfl, HB1⟩; replace HB1 := Aside0.mk HB1; refine ⟨_, rfl, ?_⟩)
    | ((with_reducible refine gate_callee (f := 9) rfl ?_); refine goesL_ (some 17) rfl rfl Tryd.func9 (by kernel_rfl) rfl #[.string a0] rfl (by (try simp only [List.map_toArray, List.map_cons, List.map_nil]); first | done | rfl) ?_; (refine (a1p.calls a0 b1 b2 b3 b4 b5 true _ ⟨hL.out.below HB1.out⟩ A2.out).mono ?_); rintro e w2 ⟨rfl, HB2⟩; have HB3 := Aside0.mk (below_step HB1.out HB2); clear HB2; refine ⟨_, rfl, ?_⟩))
  go_ret
  exact ⟨rfl, (by repeat (first | (with_reducible first | exact HB3.out | apply below_set | apply below_alloc | apply pw_below_drewN | apply below_drew1) | exact HB3.out))⟩
set_option maxHeartbeats 4000000 in
set_option maxRecDepth 100000 in
theorem word_none (a0 a1 : ByteArray) (n1 : Int) (b1 : ByteArray) (b2 b3 : Int) (b4 b5 : Bool) (w : World) (hL : Aside0 (Lq w)) (A1 : Aside0 (fixnum_Parse.f a0 = some (n1, false))) (A2 : Aside0 (a1p.f a0 = some (b1, b2, b3, b4, b5, false))) (A3 : Aside0 (lex_great.f (a0.size + 2) a0 = some false)) :
    Calls Tryd.prog 42 #[.string a0, .string a1] w fun e w' => e = .returned (.int .i64 0) ∧ Below w.heap.size w w' := by
  have hu25 := Tryd.underlying25
  go_enter Tryd.func42, Tryd.ntmps42
  go_wp2_with (first
    | ((with_reducible refine gate_callee (f := 57) rfl ?_); refine goesL_ (some 11) rfl rfl Tryd.func57 (by kernel_rfl) rfl #[.string a0] rfl (by (try simp only [List.map_toArray, List.map_cons, List.map_nil]); first | done | rfl) ?_; (refine (fixnum_Parse.calls a0 n1 false _ hL A1.out).mono ?_); rintro e w1 ⟨rfl, HB1⟩; replace HB1 := Aside0.mk HB1; refine ⟨_, rfl, ?_⟩)
    | ((with_reducible refine gate_callee (f := 9) rfl ?_); refine goesL_ (some 17) rfl rfl Tryd.func9 (by kernel_rfl) rfl #[.string a0] rfl (by (try simp only [List.map_toArray, List.map_cons, List.map_nil]); first | done | rfl) ?_; (refine (a1p.calls a0 b1 b2 b3 b4 b5 false _ ⟨hL.out.below HB1.out⟩ A2.out).mono ?_); rintro e w2 ⟨rfl, HB2⟩; have HB3 := Aside0.mk (below_step HB1.out HB2); clear HB2; refine ⟨_, rfl, ?_⟩)
    | ((with_reducible refine gate_callee (f := 58) rfl ?_); refine goesL_ (some 22) rfl rfl Tryd.func58 (by kernel_rfl) rfl #[.string a0] rfl (by (try simp only [List.map_toArray, List.map_cons, List.map_nil]); first | done | rfl) ?_; (refine (lex_great.calls (a0.size + 2) a0 false _ A3.out).mono ?_); rintro e w3 ⟨rfl, ⟨nd3, rfl⟩⟩; refine ⟨_, rfl, ?_⟩))
  go_ret
  exact ⟨rfl, (by repeat (first | (with_reducible first | exact HB3.out | apply below_set | apply below_alloc | apply pw_below_drewN | apply below_drew1) | exact HB3.out))⟩
set_option maxHeartbeats 4000000 in
set_option maxRecDepth 100000 in
theorem word_true (a0 a1 : ByteArray) (n1 : Int) (b1 : ByteArray) (b2 b3 : Int) (b4 b5 : Bool) (w : World) (hL : Aside0 (Lq w)) (A1 : Aside0 (fixnum_Parse.f a0 = some (n1, false))) (A2 : Aside0 (a1p.f a0 = some (b1, b2, b3, b4, b5, false))) (A3 : Aside0 (lex_great.f (a0.size + 2) a0 = some true)) (hT : (a0.toList == ([84, 82, 85, 69] : List UInt8)) = true) :
    Calls Tryd.prog 42 #[.string a0, .string a1] w fun e w' => e = .returned (.int .i64 4) ∧ Below w.heap.size w w' := by
  have hu25 := Tryd.underlying25
  go_enter Tryd.func42, Tryd.ntmps42
  go_wp2_with (first
    | ((with_reducible refine gate_callee (f := 57) rfl ?_); refine goesL_ (some 11) rfl rfl Tryd.func57 (by kernel_rfl) rfl #[.string a0] rfl (by (try simp only [List.map_toArray, List.map_cons, List.map_nil]); first | done | rfl) ?_; (refine (fixnum_Parse.calls a0 n1 false _ hL A1.out).mono ?_); rintro e w1 ⟨rfl, HB1⟩; replace HB1 := Aside0.mk HB1; refine ⟨_, rfl, ?_⟩)
    | ((with_reducible refine gate_callee (f := 9) rfl ?_); refine goesL_ (some 17) rfl rfl Tryd.func9 (by kernel_rfl) rfl #[.string a0] rfl (by (try simp only [List.map_toArray, List.map_cons, List.map_nil]); first | done | rfl) ?_; (refine (a1p.calls a0 b1 b2 b3 b4 b5 false _ ⟨hL.out.below HB1.out⟩ A2.out).mono ?_); rintro e w2 ⟨rfl, HB2⟩; have HB3 := Aside0.mk (below_step HB1.out HB2); clear HB2; refine ⟨_, rfl, ?_⟩)
    | ((with_reducible refine gate_callee (f := 58) rfl ?_); refine goesL_ (some 22) rfl rfl Tryd.func58 (by kernel_rfl) rfl #[.string a0] rfl (by (try simp only [List.map_toArray, List.map_cons, List.map_nil]); first | done | rfl) ?_; (refine (lex_great.calls (a0.size + 2) a0 true _ A3.out).mono ?_); rintro e w3 ⟨rfl, ⟨nd3, rfl⟩⟩; refine ⟨_, rfl, ?_⟩))
  go_ret
  exact ⟨rfl, (by repeat (first | (with_reducible first | exact HB3.out | apply below_set | apply below_alloc | apply pw_below_drewN | apply below_drew1) | exact HB3.out))⟩
set_option maxHeartbeats 4000000 in
set_option maxRecDepth 100000 in
theorem word_false (a0 a1 : ByteArray) (n1 : Int) (b1 : ByteArray) (b2 b3 : Int) (b4 b5 : Bool) (w : World) (hL : Aside0 (Lq w)) (A1 : Aside0 (fixnum_Parse.f a0 = some (n1, false))) (A2 : Aside0 (a1p.f a0 = some (b1, b2, b3, b4, b5, false))) (A3 : Aside0 (lex_great.f (a0.size + 2) a0 = some true)) (hT : (a0.toList == ([84, 82, 85, 69] : List UInt8)) = false) (hF : (a0.toList == ([70, 65, 76, 83, 69] : List UInt8)) = true) :
    Calls Tryd.prog 42 #[.string a0, .string a1] w fun e w' => e = .returned (.int .i64 4) ∧ Below w.heap.size w w' := by
  have hu25 := Tryd.underlying25
  go_enter Tryd.func42, Tryd.ntmps42
  go_wp2_with (first
    | ((with_reducible refine gate_callee (f := 57) rfl ?_); refine goesL_ (some 11) rfl rfl Tryd.func57 (by kernel_rfl) rfl #[.string a0] rfl (by (try simp only [List.map_toArray, List.map_cons, List.map_nil]); first | done | rfl) ?_; (refine (fixnum_Parse.calls a0 n1 false _ hL A1.out).mono ?_); rintro e w1 ⟨rfl, HB1⟩; replace HB1 := Aside0.mk HB1; refine ⟨_, rfl, ?_⟩)
    | ((with_reducible refine gate_callee (f := 9) rfl ?_); refine goesL_ (some 17) rfl rfl Tryd.func9 (by kernel_rfl) rfl #[.string a0] rfl (by (try simp only [List.map_toArray, List.map_cons, List.map_nil]); first | done | rfl) ?_; (refine (a1p.calls a0 b1 b2 b3 b4 b5 false _ ⟨hL.out.below HB1.out⟩ A2.out).mono ?_); rintro e w2 ⟨rfl, HB2⟩; have HB3 := Aside0.mk (below_step HB1.out HB2); clear HB2; refine ⟨_, rfl, ?_⟩)
    | ((with_reducible refine gate_callee (f := 58) rfl ?_); refine goesL_ (some 22) rfl rfl Tryd.func58 (by kernel_rfl) rfl #[.string a0] rfl (by (try simp only [List.map_toArray, List.map_cons, List.map_nil]); first | done | rfl) ?_; (refine (lex_great.calls (a0.size + 2) a0 true _ A3.out).mono ?_); rintro e w3 ⟨rfl, ⟨nd3, rfl⟩⟩; refine ⟨_, rfl, ?_⟩))
  go_ret
  exact ⟨rfl, (by repeat (first | (with_reducible first | exact HB3.out | apply below_set | apply below_alloc | apply pw_below_drewN | apply below_drew1) | exact HB3.out))⟩
set_option maxHeartbeats 4000000 in
set_option maxRecDepth 100000 in
theorem word_open (a0 a1 : ByteArray) (n1 : Int) (b1 : ByteArray) (b2 b3 : Int) (b4 b5 : Bool) (w : World) (hL : Aside0 (Lq w)) (A1 : Aside0 (fixnum_Parse.f a0 = some (n1, false))) (A2 : Aside0 (a1p.f a0 = some (b1, b2, b3, b4, b5, false))) (A3 : Aside0 (lex_great.f (a0.size + 2) a0 = some true)) (hT : (a0.toList == ([84, 82, 85, 69] : List UInt8)) = false) (hF : (a0.toList == ([70, 65, 76, 83, 69] : List UInt8)) = false) (A4 : Aside0 (strings_HasPrefix.f a1 ⟨#[40]⟩ = some true)) :
    Calls Tryd.prog 42 #[.string a0, .string a1] w fun e w' => e = .returned (.int .i64 4) ∧ Below w.heap.size w w' := by
  have hu25 := Tryd.underlying25
  go_enter Tryd.func42, Tryd.ntmps42
  go_wp2_with (first
    | ((with_reducible refine gate_callee (f := 57) rfl ?_); refine goesL_ (some 11) rfl rfl Tryd.func57 (by kernel_rfl) rfl #[.string a0] rfl (by (try simp only [List.map_toArray, List.map_cons, List.map_nil]); first | done | rfl) ?_; (refine (fixnum_Parse.calls a0 n1 false _ hL A1.out).mono ?_); rintro e w1 ⟨rfl, HB1⟩; replace HB1 := Aside0.mk HB1; refine ⟨_, rfl, ?_⟩)
    | ((with_reducible refine gate_callee (f := 9) rfl ?_); refine goesL_ (some 17) rfl rfl Tryd.func9 (by kernel_rfl) rfl #[.string a0] rfl (by (try simp only [List.map_toArray, List.map_cons, List.map_nil]); first | done | rfl) ?_; (refine (a1p.calls a0 b1 b2 b3 b4 b5 false _ ⟨hL.out.below HB1.out⟩ A2.out).mono ?_); rintro e w2 ⟨rfl, HB2⟩; have HB3 := Aside0.mk (below_step HB1.out HB2); clear HB2; refine ⟨_, rfl, ?_⟩)
    | ((with_reducible refine gate_callee (f := 58) rfl ?_); refine goesL_ (some 22) rfl rfl Tryd.func58 (by kernel_rfl) rfl #[.string a0] rfl (by (try simp only [List.map_toArray, List.map_cons, List.map_nil]); first | done | rfl) ?_; (refine (lex_great.calls (a0.size + 2) a0 true _ A3.out).mono ?_); rintro e w3 ⟨rfl, ⟨nd3, rfl⟩⟩; refine ⟨_, rfl, ?_⟩)
    | (go_at_call 44; (with_reducible refine (strings_HasPrefix.calls a1 ⟨#[40]⟩ true _ A4.out).mono ?_); rintro e w4 ⟨rfl, ⟨nd4, rfl⟩⟩))
  go_ret
  exact ⟨rfl, (by repeat (first | (with_reducible first | exact HB3.out | apply below_set | apply below_alloc | apply pw_below_drewN | apply below_drew1) | exact HB3.out))⟩
set_option maxHeartbeats 4000000 in
set_option maxRecDepth 100000 in
theorem word_bare (a0 a1 : ByteArray) (n1 : Int) (b1 : ByteArray) (b2 b3 : Int) (b4 b5 : Bool) (w : World) (hL : Aside0 (Lq w)) (A1 : Aside0 (fixnum_Parse.f a0 = some (n1, false))) (A2 : Aside0 (a1p.f a0 = some (b1, b2, b3, b4, b5, false))) (A3 : Aside0 (lex_great.f (a0.size + 2) a0 = some true)) (hT : (a0.toList == ([84, 82, 85, 69] : List UInt8)) = false) (hF : (a0.toList == ([70, 65, 76, 83, 69] : List UInt8)) = false) (A4 : Aside0 (strings_HasPrefix.f a1 ⟨#[40]⟩ = some false)) :
    Calls Tryd.prog 42 #[.string a0, .string a1] w fun e w' => e = .returned (.int .i64 0) ∧ Below w.heap.size w w' := by
  have hu25 := Tryd.underlying25
  go_enter Tryd.func42, Tryd.ntmps42
  go_wp2_with (first
    | ((with_reducible refine gate_callee (f := 57) rfl ?_); refine goesL_ (some 11) rfl rfl Tryd.func57 (by kernel_rfl) rfl #[.string a0] rfl (by (try simp only [List.map_toArray, List.map_cons, List.map_nil]); first | done | rfl) ?_; (refine (fixnum_Parse.calls a0 n1 false _ hL A1.out).mono ?_); rintro e w1 ⟨rfl, HB1⟩; replace HB1 := Aside0.mk HB1; refine ⟨_, rfl, ?_⟩)
    | ((with_reducible refine gate_callee (f := 9) rfl ?_); refine goesL_ (some 17) rfl rfl Tryd.func9 (by kernel_rfl) rfl #[.string a0] rfl (by (try simp only [List.map_toArray, List.map_cons, List.map_nil]); first | done | rfl) ?_; (refine (a1p.calls a0 b1 b2 b3 b4 b5 false _ ⟨hL.out.below HB1.out⟩ A2.out).mono ?_); rintro e w2 ⟨rfl, HB2⟩; have HB3 := Aside0.mk (below_step HB1.out HB2); clear HB2; refine ⟨_, rfl, ?_⟩)
    | ((with_reducible refine gate_callee (f := 58) rfl ?_); refine goesL_ (some 22) rfl rfl Tryd.func58 (by kernel_rfl) rfl #[.string a0] rfl (by (try simp only [List.map_toArray, List.map_cons, List.map_nil]); first | done | rfl) ?_; (refine (lex_great.calls (a0.size + 2) a0 true _ A3.out).mono ?_); rintro e w3 ⟨rfl, ⟨nd3, rfl⟩⟩; refine ⟨_, rfl, ?_⟩)
    | (go_at_call 44; (with_reducible refine (strings_HasPrefix.calls a1 ⟨#[40]⟩ false _ A4.out).mono ?_); rintro e w4 ⟨rfl, ⟨nd4, rfl⟩⟩))
  go_ret
  exact ⟨rfl, (by repeat (first | (with_reducible first | exact HB3.out | apply below_set | apply below_alloc | apply pw_below_drewN | apply below_drew1) | exact HB3.out))⟩
theorem to_bs (x : ByteArray) : x.toList = bs x := by rw [ByteArray.toList_eq]; rfl
theorem head40 (y : ByteArray) : strings_HasPrefix.f y ⟨#[40]⟩ = some (decide ((bs y).head? = some 40)) := by
  have hl : (bs y).length = y.size := by unfold bs; exact (Lib.size_eq y).symm
  have h1 : (⟨#[40]⟩ : ByteArray).size = 1 := rfl
  unfold strings_HasPrefix.f stringslite_HasPrefix.f
  rw [h1]
  cases e : bs y with
  | nil =>
    rw [e] at hl
    rw [if_neg (by simp at hl; omega)]
    rfl
  | cons c r =>
    rw [e] at hl
    rw [List.length_cons] at hl
    rw [if_pos (by omega), if_pos (by omega), if_pos (by omega), Option.bind_some]
    have : (y.extract 0 ((1 : Nat) : Int).toNat).toList = [c] := by
      rw [ByteArray.toList_eq]
      show (y.extract 0 1).data.toList = _
      have e2 : y.data.toList = c :: r := e
      rw [ByteArray.data_extract, Array.toList_extract, e2]
      rfl
    rw [this]
    have h40 : (⟨#[40]⟩ : ByteArray).toList = [40] := by rw [ByteArray.toList_eq]
    rw [h40, List.head?_cons]
    by_cases c40 : c = 40
    · subst c40; rfl
    · rw [decide_eq_false (fun h => c40 (Option.some.inj h))]
      congr 1
      rw [beq_eq_false_iff_ne]
      intro h
      exact c40 (List.cons.inj h).1
theorem wordS_eq (num ref : Lx.B → Bool) (w rest : Lx.B) (k1 k2 k3 : Bool) (h1 : num w = k1) (h2 : ref w = k2) (h3 : Lx.greatS w = k3) :
    Lx.wordS num ref w rest = if k1 = true then 1 else if k2 = true then 3 else if k3 = true ∧ (w = [84, 82, 85, 69] ∨ w = [70, 65, 76, 83, 69] ∨ rest.head? = some 40) then 4 else 0 := by
  subst h1 h2 h3
  rfl
theorem word_all (a0 a1 : ByteArray) (hs : a0.size ≤ 1000) (w : World) (hL : Aside0 (Lq w)) :
    Calls Tryd.prog 42 #[.string a0, .string a1] w fun e w' => e = .returned (.int .i64 (Lx.wordS (fun l => (FixP.parseS l).2) (fun l => (ERef.refS l).2.2.2.2.2) (bs a0) (bs a1))) ∧ Below w.heap.size w w' := by
  have A1 : fixnum_Parse.f a0 = some (FixP.parseS (bs a0)) := FixP.parse_f a0 (by omega)
  have A2 : a1p.f a0 = some (ERef.refS (bs a0)) := by
    unfold a1p.f
    rw [if_pos hs]
    exact ERef.parse_f _ a0 hs (Nat.le_refl _)
  have A3 := great_f a0 hs
  have A4 := head40 a1
  obtain ⟨n1, k1, e1⟩ : ∃ n1 k1, FixP.parseS (bs a0) = (n1, k1) := ⟨_, _, rfl⟩
  obtain ⟨b1, b2, b3, b4, b5, k2, e2⟩ : ∃ b1 b2 b3 b4 b5 k2, ERef.refS (bs a0) = (b1, b2, b3, b4, b5, k2) := ⟨_, _, _, _, _, _, rfl⟩
  obtain ⟨k3, e3⟩ : ∃ k3, Lx.greatS (bs a0) = k3 := ⟨_, rfl⟩
  rw [e1] at A1
  rw [e2] at A2
  rw [e3] at A3
  rw [wordS_eq _ _ (bs a0) (bs a1) k1 k2 k3 (by show (FixP.parseS (bs a0)).2 = k1; rw [e1]) (by show (ERef.refS (bs a0)).2.2.2.2.2 = k2; rw [e2]) e3]
  cases k1 with
  | true => rw [if_pos rfl]; exact word_number a0 a1 n1 w hL ⟨A1⟩
  | false =>
    rw [if_neg (by decide)]
    cases k2 with
    | true => rw [if_pos rfl]; exact word_ref a0 a1 n1 b1 b2 b3 b4 b5 w hL ⟨A1⟩ ⟨A2⟩
    | false =>
      rw [if_neg (by decide)]
      cases k3 with
      | false => rw [if_neg (fun h => by cases h.1)]; exact word_none a0 a1 n1 b1 b2 b3 b4 b5 w hL ⟨A1⟩ ⟨A2⟩ ⟨A3⟩
      | true =>
        by_cases hT : bs a0 = [84, 82, 85, 69]
        · rw [if_pos ⟨rfl, .inl hT⟩]
          exact word_true a0 a1 n1 b1 b2 b3 b4 b5 w hL ⟨A1⟩ ⟨A2⟩ ⟨A3⟩ (by rw [to_bs]; exact beq_iff_eq.mpr hT)
        · have hT' : (a0.toList == ([84, 82, 85, 69] : List UInt8)) = false := by rw [to_bs]; exact beq_eq_false_iff_ne.mpr hT
          by_cases hF : bs a0 = [70, 65, 76, 83, 69]
          · rw [if_pos ⟨rfl, .inr (.inl hF)⟩]
            exact word_false a0 a1 n1 b1 b2 b3 b4 b5 w hL ⟨A1⟩ ⟨A2⟩ ⟨A3⟩ hT' (by rw [to_bs]; exact beq_iff_eq.mpr hF)
          · have hF' : (a0.toList == ([70, 65, 76, 83, 69] : List UInt8)) = false := by rw [to_bs]; exact beq_eq_false_iff_ne.mpr hF
            by_cases hp : (bs a1).head? = some 40
            · rw [if_pos ⟨rfl, .inr (.inr hp)⟩]
              rw [decide_eq_true hp] at A4
              exact word_open a0 a1 n1 b1 b2 b3 b4 b5 w hL ⟨A1⟩ ⟨A2⟩ ⟨A3⟩ hT' hF' ⟨A4⟩
            · rw [if_neg (fun h => h.2.elim hT (fun h => h.elim hF hp))]
              rw [decide_eq_false hp] at A4
              exact word_bare a0 a1 n1 b1 b2 b3 b4 b5 w hL ⟨A1⟩ ⟨A2⟩ ⟨A3⟩ hT' hF' ⟨A4⟩
end Go.Proofs.YtpabggjnkoehfaaDoor.EWd
end
section
namespace Go.Proofs.YtpabggjnkoehfaaDoor.Lx
open Go.Lib
set_option linter.unusedVariables false
def SIG : B := [32, 43, 32, 45, 32, 42, 32, 47, 32, 38, 32, 61, 32, 60, 62, 32, 60, 32, 60, 61, 32, 62, 32, 62, 61, 32, 40, 32, 41, 32, 44, 32, 58, 32]
theorem occ_get (sub : B) (i : Nat) (h : occAt SIG sub i = true) (k : Nat) (hk : k < sub.length) : SIG[i + k]? = sub[k]? := by
  obtain ⟨r, hr⟩ := List.isPrefixOf_iff_prefix.1 h
  have h1 : (SIG.drop i)[k]? = (sub ++ r)[k]? := by rw [hr]
  rw [List.getElem?_drop] at h1
  rw [h1, List.getElem?_append_left hk]
theorem con_iff (sub : B) : contains SIG sub = true ↔ ∃ i, i ≤ SIG.length ∧ occAt SIG sub i = true := by
  unfold contains
  rw [decide_eq_true_eq]
  rcases index_spec SIG sub with ⟨h1, h2⟩ | ⟨i, h1, h2, h3, _⟩
  · rw [h1]
    refine ⟨fun h => absurd h (by decide), fun ⟨i, hi, ho⟩ => ?_⟩
    rw [h2 i hi] at ho
    cases ho
  · rw [h1]
    exact ⟨fun _ => ⟨i, h2, h3⟩, fun _ => by omega⟩
set_option maxRecDepth 100000 in
theorem fin1 : ∀ i : Fin 60, SIG[i.1]? = some 32 → SIG[i.1 + 2]? = some 32 → ((SIG[i.1 + 1]?).map (fun c => sgn [c] || c == 32)).getD true = true := by decide
set_option maxRecDepth 100000 in
theorem fin2 : ∀ i : Fin 60, SIG[i.1]? = some 32 → SIG[i.1 + 3]? = some 32 → ((SIG[i.1 + 1]?).bind (fun c => (SIG[i.1 + 2]?).map (fun d => sgn [c, d] || c == 32 || d == 32))).getD true = true := by decide
set_option maxRecDepth 100000 in
theorem sig1 : ∀ w ∈ signs, contains SIG (32 :: w ++ [32]) = true := by decide
theorem sgn_mem (w : B) (h : sgn w = true) : w ∈ signs := by simpa [sgn] using h
theorem con1 (c : UInt8) (hc : c ≠ 32) : contains SIG [32, c, 32] = sgn [c] := by
  cases h : sgn [c] with
  | true => exact sig1 [c] (sgn_mem _ h)
  | false =>
    cases g : contains SIG [32, c, 32] with
    | false => rfl
    | true =>
      exfalso
      obtain ⟨i, hi, ho⟩ := (con_iff _).1 g
      have e0 := occ_get [32, c, 32] i ho 0 (by simp)
      have e1 := occ_get [32, c, 32] i ho 1 (by simp)
      have e2 := occ_get [32, c, 32] i ho 2 (by simp)
      have hl : SIG.length = 34 := rfl
      have := fin1 ⟨i, by omega⟩ e0 e2
      simp only at this
      rw [e1] at this
      simp [h, hc] at this
theorem con2 (c d : UInt8) (hc : c ≠ 32) (hd : d ≠ 32) : contains SIG [32, c, d, 32] = sgn [c, d] := by
  cases h : sgn [c, d] with
  | true => exact sig1 [c, d] (sgn_mem _ h)
  | false =>
    cases g : contains SIG [32, c, d, 32] with
    | false => rfl
    | true =>
      exfalso
      obtain ⟨i, hi, ho⟩ := (con_iff _).1 g
      have e0 := occ_get [32, c, d, 32] i ho 0 (by simp)
      have e1 := occ_get [32, c, d, 32] i ho 1 (by simp)
      have e2 := occ_get [32, c, d, 32] i ho 2 (by simp)
      have e3 := occ_get [32, c, d, 32] i ho 3 (by simp)
      have hl : SIG.length = 34 := rfl
      have := fin2 ⟨i, by omega⟩ e0 e3
      simp only at this
      rw [e1, e2] at this
      simp [h, hc, hd] at this
end Go.Proofs.YtpabggjnkoehfaaDoor.Lx
end
section
namespace Go.Proofs.YtpabggjnkoehfaaDoor.ExtL
open Go.RowKit Go.Lib Go.Proofs.YtpabggjnkoehfaaDoorW.PrintWords Go.Proofs.YtpabggjnkoehfaaDoor.Lx
set_option linter.unusedVariables false
structure Lq (w : World) : Prop where
  q : Ext.Lq w
  ut : Lib.Utf8Tabs (Tryd.lays196_ren.g 3) (Tryd.lays196_ren.g 4) w
theorem Lq.below {w w' : World} (h : Lq w) (hb : Below w.heap.size w w') : Lq w' := ⟨h.q.below hb, Utf8Tabs_below h.ut hb⟩
theorem Lq.drawn {w w' : World} (h : Lq w) (hb : Drawn0 w w') : Lq w' := h.below hb.below
def bs (x : ByteArray) : B := x.data.toList
def numB (w : B) : Bool := (FixP.parseS w).2
def refB (w : B) : Bool := (ERef.refS w).2.2.2.2.2
def validB (w : B) : Bool := Lib.validD w
theorem num_SUM : numB [83, 85, 77] = false := by decide +kernel
theorem num_A1 : numB [65, 49] = false := by decide +kernel
theorem num_B2 : numB [36, 66, 50] = false := by decide +kernel
theorem ref_SUM : refB [83, 85, 77] = false := by decide +kernel
theorem ref_A1 : refB [65, 49] = true := by decide +kernel
theorem ref_B2 : refB [36, 66, 50] = true := by decide +kernel
theorem valid_ab : validB [97, 34, 98] = true := by decide +kernel
def lex_word.f (a0 a1 : ByteArray) : Option Int := if a0.size ≤ 1000 then some (wordS numB refB (bs a0) (bs a1)) else none
theorem lex_word.calls (a0 a1 : ByteArray) (r : Int) (w : World) (hL : Aside0 (Lq w)) (h : lex_word.f a0 a1 = some r) :
    Calls Tryd.prog 42 #[.string a0, .string a1] w fun e w' => e = .returned (.int .i64 r) ∧ Below w.heap.size w w' := by
  unfold lex_word.f at h
  by_cases hs : a0.size ≤ 1000
  · rw [if_pos hs] at h
    obtain rfl := Option.some.inj h
    exact EWd.word_all a0 a1 hs w ⟨hL.out.q⟩
  · rw [if_neg hs] at h; cases h
def strings_IndexByte.f (a0 : ByteArray) (a1 : Int) : Option Int := some (Lib.indexByte (bs a0) a1.toNat.toUInt8)
theorem strings_IndexByte.calls (a0 : ByteArray) (a1 r : Int) (w : World) (h : strings_IndexByte.f a0 a1 = some r) :
    Calls Tryd.prog 55 #[.string a0, .int .u8 a1] w fun e w' => e = .returned (.int .i64 r) ∧ Drawn0 w w' := by
  obtain rfl := Option.some.inj h
  exact (Tryd.strings_IndexByte a0 a1 w).mono fun e w' ⟨he, hw⟩ => ⟨he, hw ▸ Drawn0.refl _⟩
def strings_Contains.f (a0 a1 : ByteArray) : Option Bool := if a0.size ≤ 100000 then some (Lib.contains (bs a0) (bs a1)) else none
theorem strings_Contains.calls (a0 a1 : ByteArray) (r : Bool) (w : World) (hL : Aside0 (Lq w)) (h : strings_Contains.f a0 a1 = some r) :
    Calls Tryd.prog 45 #[.string a0, .string a1] w fun e w' => e = .returned (.bool r) ∧ Drawn0 w w' := by
  unfold strings_Contains.f at h
  by_cases hs : a0.size ≤ 100000
  · rw [if_pos hs] at h
    obtain rfl := Option.some.inj h
    obtain ⟨m, hm⟩ := hL.out.q.m
    exact (Tryd.strings_Contains a0 a1 m w (by omega) hm).mono fun e w' ⟨he, hw⟩ => ⟨he, hw ▸ Drawn0.refl _⟩
  · rw [if_neg hs] at h; cases h
def utf8_ValidString.f (a0 : ByteArray) : Option Bool := if a0.size ≤ 100000 then some (validB (bs a0)) else none
theorem utf8_ValidString.calls (a0 : ByteArray) (r : Bool) (w : World) (hL : Aside0 (Lq w)) (h : utf8_ValidString.f a0 = some r) :
    Calls Tryd.prog 56 #[.string a0] w fun e w' => e = .returned (.bool r) ∧ Below w.heap.size w w' := by
  unfold utf8_ValidString.f at h
  by_cases hs : a0.size ≤ 100000
  · rw [if_pos hs] at h
    obtain rfl := Option.some.inj h
    exact Tryd.utf8_ValidString a0 w (by omega) hL.out.ut
  · rw [if_neg hs] at h; cases h
end Go.Proofs.YtpabggjnkoehfaaDoor.ExtL
end
section
namespace Go.Proofs.YtpabggjnkoehfaaDoor
open Go.RowKit
theorem first_data : Rows.laid_unicode_utf8_first = Lib.firstData := by kernel_rfl
theorem accept_data : Rows.laid_unicode_utf8_acceptRanges = Lib.acceptData := by kernel_rfl
def laidL : List (String × DataW Unit) := [("math/bits.deBruijn32tab", Rows.laid_math_bits_deBruijn32tab), ("math/bits.deBruijn64tab", Rows.laid_math_bits_deBruijn64tab), ("internal/strconv.uint64pow10", Rows.laid_internal_strconv_uint64pow10), ("unicode/utf8.acceptRanges", Rows.laid_unicode_utf8_acceptRanges), ("strconv.ErrRange", Rows.laid_strconv_ErrRange), ("strconv.ErrSyntax", Rows.laid_strconv_ErrSyntax), ("unicode/utf8.first", Rows.laid_unicode_utf8_first)]
theorem lq_of_laidL {W : World} (h : laidMetH Tryd.prog laidL W) (hs : W.ShapedOpen Tryd.prog) : ExtL.Lq W := by
  rw [MakeChecks.laidMetH_plain _ _ _ (by kernel_rfl)] at h
  have h2 := h.tail.tail
  have h4 := h2.tail.tail
  exact ⟨lq_of hs h2 h4.tail h4,
    utf8Tabs_of_readsT (U8Types.of196 Tryd.lays196) ⟨by kernel_rfl, by kernel_rfl, by kernel_rfl, by kernel_rfl, by kernel_rfl, by kernel_rfl, by kernel_rfl⟩ (first_data ▸ Lib.laidMet.reads h (by simp [laidL])) (accept_data ▸ Lib.laidMet.reads h (by simp [laidL]))⟩
theorem door_metL (os : Os) (args : Array Value) : laidMetH Tryd.prog laidL ((World.laidAll Tryd.prog os laidL).forCall (fun _ _ => 0) ⟨#[], args, []⟩).memory := by
  rw [MakeChecks.laidMetH_plain _ _ _ (by kernel_rfl)]
  exact laidMet_laidAll _ (by kernel_rfl) (by kernel_rfl)
end Go.Proofs.YtpabggjnkoehfaaDoor
end
section
namespace Go.Proofs.YtpabggjnkoehfaaDoor.ELex
open Go.RowKit Go.Proofs.YtpabggjnkoehfaaDoor.ExtL Go.Proofs.YtpabggjnkoehfaaDoorW.PrintWords Go.Proofs.YtpabggjnkoehfaaDoorW.PrintLast Go.Proofs.YtpabggjnkoehfaaDoorW.PrintMore
attribute [local go_sem] max2_int min2_int max_two min_two max_three min_three max_four min_four   
set_option linter.unusedVariables false
set_option linter.unusedSimpArgs false
def errW : Option Int → Value
  | none => .nilIface
  | some c => .iface 0 (.int .i64 c)
theorem errW_none : errW none = .nilIface := rfl
theorem errW_some (c : Int) : errW (some c) = .iface 0 (.int .i64 c) := rfl
theorem info43 : (Tryd.prog.info? 43).map (fun i => (i.zero, i.size, i.bytes)) = some (some (.agg #[(.int .i64 0), (.string ⟨#[]⟩), (.int .i64 0)]), 3, 32) := by kernel_rfl
structure S43 where
  f0 : Int
  f1 : ByteArray
  f2 : Int
def z43 : S43 := ⟨(0 : Int), (⟨#[]⟩ : ByteArray), (0 : Int)⟩
def k43 : Kd S43 := Kd.iso (Kd.pair (Kd.int .i64) (Kd.pair Kd.string (Kd.int .i64))) (fun x : S43 => (x.f0, x.f1, x.f2))
theorem k43_open {w : World} {x : S43} {cs : List Value} (h : k43.K w x cs) : cs = [.int .i64 x.f0, .string x.f1, .int .i64 x.f2] := by
  obtain ⟨_, _, rfl, rfl, ⟨_, _, rfl, rfl, rfl⟩⟩ := h
  exact rfl
theorem k43_mkM (w : World) (base : Nat) (ok : Nat → Prop) (x : S43)  : k43.M w base ok x [.int .i64 x.f0, .string x.f1, .int .i64 x.f2] := ⟨[.int .i64 x.f0], [.string x.f1, .int .i64 x.f2], rfl, rfl, ⟨[.string x.f1], [.int .i64 x.f2], rfl, rfl, rfl⟩⟩
def rd_T43 (xs : List S43) (i : Int) : S43 := xs.getD i.toNat z43
theorem at_T43 {w : World} {A : Option Addr} {n : Nat} {xs : List S43} (h : Kd.C k43 w A n xs) (i : Int) (h0 : 0 ≤ i) (h1 : i < n) : ∃ ad , A = some ad ∧ w.cell? (ad.add (i.toNat * 3)) = some (.int .i64 (rd_T43 xs i).f0) ∧ w.cell? ⟨(ad.add (i.toNat * 3)).block, (ad.add (i.toNat * 3)).off + 1, none⟩ = some (.string (rd_T43 xs i).f1) ∧ w.cell? ⟨(ad.add (i.toNat * 3)).block, (ad.add (i.toNat * 3)).off + 2, none⟩ = some (.int .i64 (rd_T43 xs i).f2) := by
  obtain ⟨ad, c, e, _, hK, hc0⟩ := Kd.C_get h z43 i h0 h1
  have hc : ∀ j u, c[j]? = some u → w.cell? (ad.add (i.toNat * 3 + j)) = some u := hc0
  obtain rfl := k43_open hK
  exact ⟨ad, e, hc 0 _ rfl, by rw [← add_field _ _ 1 (by omega)]; exact hc 1 _ rfl, by rw [← add_field _ _ 2 (by omega)]; exact hc 2 _ rfl⟩
end Go.Proofs.YtpabggjnkoehfaaDoor.ELex
end
section
namespace Go.Proofs.YtpabggjnkoehfaaDoor.ELex
open Go.RowKit Go.Proofs.YtpabggjnkoehfaaDoor.ExtL Go.Proofs.YtpabggjnkoehfaaDoorW.PrintWords Go.Proofs.YtpabggjnkoehfaaDoorW.PrintLast Go.Proofs.YtpabggjnkoehfaaDoorW.PrintMore
attribute [local go_sem] max2_int min2_int max_two min_two max_three min_three max_four min_four   
set_option linter.unusedVariables false
set_option linter.unusedSimpArgs false
def counterpanelaw5_Short.f (a0 : ByteArray) (a1 : Int) : Option (ByteArray) := if (a0.size : Int) > a1 then (if 0 ≤ a1 then (if a1 ≤ (a0.size : Int) then (some (a0.extract 0 (a1 : Int).toNat)) else (none)) else (none)) else (some a0)
set_option maxHeartbeats 8000000 in
set_option maxRecDepth 100000 in
theorem counterpanelaw5_Short.calls (a0 : ByteArray) (a1 : Int) (r : ByteArray) (w : World) (h : counterpanelaw5_Short.f a0 a1 = some r) :
    Calls Tryd.prog 8 #[.string a0, .int .i64 a1] w fun e w' => e = .returned (.string r) ∧ Drawn0 w w' := by
  have H : (if (a0.size : Int) > a1 then (if 0 ≤ a1 then (if a1 ≤ (a0.size : Int) then (some (a0.extract 0 (a1 : Int).toNat)) else (none)) else (none)) else (some a0)) = some r := h
  clear h
  by_cases c3 : (a0.size : Int) > a1
  · rw [if_pos c3] at H
    have c3b0 : decide (a1 < (a0.size : Int)) = true := decide_eq_true c3
    clear c3
    by_cases c4 : 0 ≤ a1
    · rw [if_pos c4] at H
      have c4b0 := eq_true c4
      have c4b1 : decide (0 ≤ a1) = true := decide_eq_true c4
      clear c4
      by_cases c5 : a1 ≤ (a0.size : Int)
      · rw [if_pos c5] at H
        have c5b0 := eq_true c5
        have c5b1 : decide (a1 ≤ (a0.size : Int)) = true := decide_eq_true c5
        clear c5
        obtain rfl := Option.some.inj H
        go_enter Tryd.func8, Tryd.ntmps8
        go_wp2
        go_ret
        exact ⟨by first | rfl | (simp; done) | (simp [*]; done) | (simp; generalize ByteArray.toList _ = l_; cases l_ <;> rfl), by repeat (first | exact Drawn0.refl _ | apply Drawn0.step)⟩
      · rw [if_neg c5] at H
        exact absurd H (by simp)
    · rw [if_neg c4] at H
      exact absurd H (by simp)
  · rw [if_neg c3] at H
    have c3b0 : decide (a1 < (a0.size : Int)) = false := decide_eq_false c3
    clear c3
    obtain rfl := Option.some.inj H
    go_enter Tryd.func8, Tryd.ntmps8
    go_wp2
    go_ret
    exact ⟨by first | rfl | (simp; done) | (simp [*]; done) | (simp; generalize ByteArray.toList _ = l_; cases l_ <;> rfl), by repeat (first | exact Drawn0.refl _ | apply Drawn0.step)⟩
mutual
def lex_quoted.l0 : Nat → ByteArray → ByteArray → Int → Option (ByteArray × Int)
  | 0, _, _, _ => none
  | k + 1, x0, x4, x5 => if x5 < (x0.size : Int) then (if 0 ≤ x5 then (if x5 ≤ (x0.size : Int) then ((strings_IndexByte.f (x0.extract (x5 : Int).toNat x0.size) 34).bind fun t101 => (if t101 < 0 then (some ((⟨#[]⟩ : ByteArray), 0)) else (if x5 ≤ (wrap64 (x5 + t101)) then (if (wrap64 (x5 + t101)) ≤ (x0.size : Int) then (if x4.size + (x0.extract (x5 : Int).toNat ((wrap64 (x5 + t101)) : Int).toNat).size ≤ 9223372036854775807 then (if (wrap64 (x5 + (wrap64 (t101 + 1)))) = (x0.size : Int) then (lex_quoted.j1 k x0 (x4 ++ (x0.extract (x5 : Int).toNat ((wrap64 (x5 + t101)) : Int).toNat)) (wrap64 (x5 + (wrap64 (t101 + 1)))) true) else (if 0 ≤ (wrap64 (x5 + (wrap64 (t101 + 1)))) then (if (wrap64 (x5 + (wrap64 (t101 + 1)))) < (x0.size : Int) then (lex_quoted.j1 k x0 (x4 ++ (x0.extract (x5 : Int).toNat ((wrap64 (x5 + t101)) : Int).toNat)) (wrap64 (x5 + (wrap64 (t101 + 1)))) ((bt x0 (wrap64 (x5 + (wrap64 (t101 + 1))))) != 34)) else (none)) else (none))) else (none)) else (none)) else (none)))) else (none)) else (none)) else (some ((⟨#[]⟩ : ByteArray), 0))
def lex_quoted.j1 : Nat → ByteArray → ByteArray → Int → Bool → Option (ByteArray × Int)
  | 0, _, _, _, _ => none
  | k + 1, x0, x4, x5, x38 => if x38 = true then (if (x4.size : Int) > 200 then (some ((⟨#[]⟩ : ByteArray), 0)) else ((utf8_ValidString.f x4).bind fun t102 => (if t102 = true then (some (x4, x5)) else (some ((⟨#[]⟩ : ByteArray), 0))))) else (if x4.size + 1 ≤ 9223372036854775807 then (lex_quoted.l0 k x0 (x4 ++ (⟨#[34]⟩ : ByteArray)) (wrap64 (x5 + 1))) else (none))
end
def lex_quoted.f (k : Nat) (a0 : ByteArray) : Option (ByteArray × Int) := lex_quoted.l0 k a0 (⟨#[]⟩ : ByteArray) 1
set_option maxHeartbeats 8000000 in
set_option maxRecDepth 100000 in
theorem lex_quoted.calls (k : Nat) (a0 : ByteArray) (r1 : ByteArray) (r2 : Int) (w : World) (hL : Aside0 (Lq w)) (h : lex_quoted.f k a0 = some (r1, r2)) :
    Calls Tryd.prog 40 #[.string a0] w fun e w' => e = .returned (.tuple #[.string r1, .int .i64 r2]) ∧ Below w.heap.size w w' := by
  have HB := Aside0.mk (Below.refl w.heap.size w)
  have H : (lex_quoted.l0 k a0 (⟨#[]⟩ : ByteArray) 1) = some (r1, r2) := h
  clear h
  have H' := Aside0.mk H
  clear H
  go_enter Tryd.func40, Tryd.ntmps40
  go_wp2
  go_loopg [4, 5] k (fun kq v4 v5 w' => ∃ (x4_1 : ByteArray) (x5_1 : Int), v4 = .string x4_1 ∧ v5 = .int .i64 x5_1 ∧ Aside0 (lex_quoted.l0 kq a0 x4_1 x5_1 = some (r1, r2)) ∧ Aside0 (kq ≤ k) ∧ Aside0 (Below w.heap.size w w'))
  case atStart => exact ⟨((⟨#[]⟩ : ByteArray)), (1), (by first | rfl | (simp; done) | (simp [*]; done)), (by first | rfl | (simp; done) | (simp [*]; done)), H', ⟨Nat.le_refl _⟩, ⟨by repeat (first | (with_reducible first | exact HB.out | apply below_alloc | apply pw_below_drewN | apply below_drew1) | exact HB.out)⟩⟩
  case round =>
    clear H'
    obtain ⟨x4_1, x5_1, rfl, rfl, HA, HK1, HB⟩ := hrel
    cases gk with
    | zero => exact absurd HA.out (by simp [lex_quoted.l0])
    | succ k1 =>
      have H := HA.out
      clear HA
      simp only [lex_quoted.l0] at H
      by_cases c2 : x5_1 < (a0.size : Int)
      · rw [if_pos c2] at H
        have c2b0 : decide (x5_1 < (a0.size : Int)) = true := decide_eq_true c2
        clear c2
        by_cases c3 : 0 ≤ x5_1
        · rw [if_pos c3] at H
          have c3b0 := eq_true c3
          have c3b1 : decide (0 ≤ x5_1) = true := decide_eq_true c3
          clear c3
          by_cases c4 : x5_1 ≤ (a0.size : Int)
          · rw [if_pos c4] at H
            have c4b0 := eq_true c4
            have c4b1 : decide (x5_1 ≤ (a0.size : Int)) = true := decide_eq_true c4
            clear c4
            replace H := Option.bind_eq_some_iff.mp H
            obtain ⟨t101, A50, H⟩ := H
            replace H : (if t101 < 0 then (some ((⟨#[]⟩ : ByteArray), 0)) else (if x5_1 ≤ (wrap64 (x5_1 + t101)) then (if (wrap64 (x5_1 + t101)) ≤ (a0.size : Int) then (if x4_1.size + (a0.extract (x5_1 : Int).toNat ((wrap64 (x5_1 + t101)) : Int).toNat).size ≤ 9223372036854775807 then (if (wrap64 (x5_1 + (wrap64 (t101 + 1)))) = (a0.size : Int) then (lex_quoted.j1 k1 a0 (x4_1 ++ (a0.extract (x5_1 : Int).toNat ((wrap64 (x5_1 + t101)) : Int).toNat)) (wrap64 (x5_1 + (wrap64 (t101 + 1)))) true) else (if 0 ≤ (wrap64 (x5_1 + (wrap64 (t101 + 1)))) then (if (wrap64 (x5_1 + (wrap64 (t101 + 1)))) < (a0.size : Int) then (lex_quoted.j1 k1 a0 (x4_1 ++ (a0.extract (x5_1 : Int).toNat ((wrap64 (x5_1 + t101)) : Int).toNat)) (wrap64 (x5_1 + (wrap64 (t101 + 1)))) ((bt a0 (wrap64 (x5_1 + (wrap64 (t101 + 1))))) != 34)) else (none)) else (none))) else (none)) else (none)) else (none))) = some (r1, r2) := H
            have A5 := Aside0.mk A50
            clear A50
            by_cases c6 : t101 < 0
            · rw [if_pos c6] at H
              have c6b0 : decide (t101 < 0) = true := decide_eq_true c6
              clear c6
              simp only [Option.some.injEq, Prod.mk.injEq] at H
              obtain ⟨rfl, rfl⟩ := H
              go_wp2_with (first | ((with_reducible refine gate_callee (f := 55) rfl ?_); refine goesL_ (some 14) rfl rfl Tryd.func55 (by kernel_rfl) rfl #[.string (a0.extract (x5_1 : Int).toNat a0.size), .int .u8 34] rfl (by (try simp only [List.map_toArray, List.map_cons, List.map_nil]); first | done | rfl | (simp only [List.length_drop, List.length_take]; rfl)) ?_; (with_reducible refine (strings_IndexByte.calls (a0.extract (x5_1 : Int).toNat a0.size) 34 t101 _ A5.out).mono ?_); rintro e w' ⟨rfl, ⟨nd, rfl⟩⟩; refine ⟨_, rfl, ?_⟩))
              go_ret2
              exact ⟨by first | rfl | (simp [errW_none, errW_some] <;> rfl) | (simp [*, errW_none, errW_some] <;> rfl) | (simp [*, errW_none, errW_some] <;> (generalize ByteArray.toList _ = l_; cases l_ <;> rfl)), by repeat (first | (with_reducible first | exact HB.out | apply below_alloc | apply pw_below_drewN | apply below_drew1) | exact HB.out)⟩
            · rw [if_neg c6] at H
              have c6b0 : decide (t101 < 0) = false := decide_eq_false c6
              clear c6
              have c7b0 := eq_true (of_decide_eq_true (by first | (with_reducible assumption) | assumption) : 0 ≤ x5_1)
              by_cases c8 : x5_1 ≤ (wrap64 (x5_1 + t101))
              · rw [if_pos c8] at H
                have c8b0 := eq_true c8
                have c8b1 : decide (x5_1 ≤ (wrap64 (x5_1 + t101))) = true := decide_eq_true c8
                by_cases c9 : (wrap64 (x5_1 + t101)) ≤ (a0.size : Int)
                · rw [if_pos c9] at H
                  have c9b0 := eq_true c9
                  have c9b1 : decide ((wrap64 (x5_1 + t101)) ≤ (a0.size : Int)) = true := decide_eq_true c9
                  by_cases c10 : x4_1.size + (a0.extract (x5_1 : Int).toNat ((wrap64 (x5_1 + t101)) : Int).toNat).size ≤ 9223372036854775807
                  · rw [if_pos c10] at H
                    have c10b0 := eq_true c10
                    have c10b1 : decide (x4_1.size + (a0.extract (x5_1 : Int).toNat ((wrap64 (x5_1 + t101)) : Int).toNat).size ≤ 9223372036854775807) = true := decide_eq_true c10
                    try (have c10b1z := c10b1; simp only [ByteArray.size_extract, Nat.min_self] at c10b1z)
                    try (have c10b1y := eq_true (of_decide_eq_true c10b1); simp only [ByteArray.size_extract, Nat.min_self] at c10b1y)
                    try have c10b2 : (9223372036854775807 < x4_1.size + (a0.extract (x5_1 : Int).toNat ((wrap64 (x5_1 + t101)) : Int).toNat).size) = False := eq_false (Nat.not_lt.2 c10)
                    have HC11 := Aside0.mk H
                    clear H
                    go_upto_region 8 with (first | ((with_reducible refine gate_callee (f := 55) rfl ?_); refine goesL_ (some 14) rfl rfl Tryd.func55 (by kernel_rfl) rfl #[.string (a0.extract (x5_1 : Int).toNat a0.size), .int .u8 34] rfl (by (try simp only [List.map_toArray, List.map_cons, List.map_nil]); first | done | rfl | (simp only [List.length_drop, List.length_take]; rfl)) ?_; (with_reducible refine (strings_IndexByte.calls (a0.extract (x5_1 : Int).toNat a0.size) 34 t101 _ A5.out).mono ?_); rintro e w' ⟨rfl, ⟨nd, rfl⟩⟩; refine ⟨_, rfl, ?_⟩))
                    (try simp only [Act.put, List.setIfInBounds_toArray, List.set_cons_zero, List.set_cons_succ])
                    obtain ⟨xx, hxx⟩ : ∃ x_, (x4_1 ++ (a0.extract (x5_1 : Int).toNat ((wrap64 (x5_1 + t101)) : Int).toNat)) = x_ := ⟨_, rfl⟩
                    have HCx := Aside0.mk HC11.out
                    clear HC11
                    rw [hxx] at HCx
                    have HC11 := HCx
                    clear HCx
                    try rw [hxx]
                    try simp only [hxx]
                    clear hxx
                    go_cut [38] (fun v38 wc => ∃ (kq : Nat) (x38_10 : Bool), v38 = .bool x38_10 ∧ Aside0 (lex_quoted.j1 kq a0 xx (wrap64 (x5_1 + (wrap64 (t101 + 1)))) x38_10 = some (r1, r2)) ∧ Aside0 (kq ≤ k1) ∧ Aside0 (Below w.heap.size w wc))
                    case first =>
                      have H := HC11.out
                      clear HC11
                      by_cases c12 : (wrap64 (x5_1 + (wrap64 (t101 + 1)))) = (a0.size : Int)
                      · rw [if_pos c12] at H
                        have c12b0 : ((wrap64 (x5_1 + (wrap64 (t101 + 1)))) == (a0.size : Int)) = true := beq_iff_eq.mpr c12
                        have c12b1 : ((wrap64 (x5_1 + (wrap64 (t101 + 1)))) != (a0.size : Int)) = false := bne_eq_false_iff_eq.mpr c12
                        clear c12
                        (first | rw [c12b0] | (simp only [i64_w, i32_w]; rw [c12b0]) | skip)
                        have H' := Aside0.mk H
                        clear H
                        go_wp2
                        go_meet
                        case rel => exact ⟨_, (true), (by first | rfl | (simp; done) | (simp [*]; done)), H', ⟨by have := HK1.out; first | omega | exact Nat.le_refl _⟩, ⟨by repeat (first | (with_reducible first | exact HB.out | apply below_alloc | apply pw_below_drewN | apply below_drew1) | exact HB.out)⟩⟩
                      · rw [if_neg c12] at H
                        have c12b0 : ((wrap64 (x5_1 + (wrap64 (t101 + 1)))) == (a0.size : Int)) = false := beq_eq_false_iff_ne.mpr c12
                        have c12b1 : ((wrap64 (x5_1 + (wrap64 (t101 + 1)))) != (a0.size : Int)) = true := bne_iff_ne.mpr c12
                        (first | rw [c12b0] | (simp only [i64_w, i32_w]; rw [c12b0]) | skip)
                        obtain ⟨ji13, hji13⟩ : ∃ j_ : Int, (wrap64 (x5_1 + (wrap64 (t101 + 1)))) = j_ := ⟨_, rfl⟩
                        replace H : (if 0 ≤ (ji13) then (if (ji13) < (a0.size : Int) then (lex_quoted.j1 k1 a0 xx ji13 ((bt a0 (ji13)) != 34)) else (none)) else (none)) = some (r1, r2) := by first | (rw [hji13] at H; exact H) | (simp only [hji13] at H ⊢; exact H)
                        (try rw [hji13] at c12b0)
                        (try rw [hji13] at c12b1)
                        have hji13w : (IntKind.i64.wrap (x5_1 + (wrap64 (t101 + 1)))) = ji13 := (i64_w _).trans hji13
                        by_cases c14 : 0 ≤ (ji13)
                        · rw [if_pos c14] at H
                          have c14b0 : decide (0 ≤ (ji13)) = true := decide_eq_true c14
                          clear c14
                          by_cases c15 : (ji13) < (a0.size : Int)
                          · rw [if_pos c15] at H
                            have c15b0 : decide ((ji13) < (a0.size : Int)) = true := decide_eq_true c15
                            clear c15
                            have H' := Aside0.mk H
                            clear H
                            have p16 : 0 ≤ ((ji13) : Int) := of_decide_eq_true (by first | (with_reducible assumption) | assumption)
                            have q16 : (ji13) < (a0.size : Int) := of_decide_eq_true (by first | (with_reducible assumption) | assumption)
                            have hx16 := bt_at a0 (ji13)
                            replace p16 := eq_true p16
                            replace q16 := eq_true q16
                            try (have q16z := q16; simp only [ByteArray.size_extract, Nat.min_self] at q16z)
                            go_wp2
                            go_meet
                            case rel => exact ⟨_, (((bt a0 (ji13)) != 34)), (by first | rfl | (simp; done) | (simp only [← hji13] <;> (first | rfl | simp)) | (simp [*]; done)), ⟨by rw [hji13]; exact H'.out⟩, ⟨by have := HK1.out; first | omega | exact Nat.le_refl _⟩, ⟨by repeat (first | (with_reducible first | exact HB.out | apply below_alloc | apply pw_below_drewN | apply below_drew1) | exact HB.out)⟩⟩
                          · rw [if_neg c15] at H
                            exact absurd H (by simp)
                        · rw [if_neg c14] at H
                          exact absurd H (by simp)
                    case rest =>
                      clear HC11
                      try clear c1
                      try clear p1
                      try clear q1
                      try clear hx1
                      try clear c2
                      try clear c2b0
                      try clear p2
                      try clear c3
                      try clear c3b0
                      try clear c3b1
                      try clear c4
                      try clear c4b0
                      try clear c4b1
                      try clear c5
                      try clear c6
                      try clear c6b0
                      try clear p6
                      try clear c7
                      try clear c7b0
                      try clear c8
                      try clear c8b0
                      try clear c8b1
                      try clear c9
                      try clear c9b0
                      try clear c9b1
                      try clear c10
                      try clear c10b0
                      try clear c10b1
                      try clear c10b2
                      try clear c12
                      try clear c12b0
                      try clear c12b1
                      try clear c14
                      try clear c14b0
                      try clear c15
                      try clear c15b0
                      try clear p16
                      try clear q16
                      try clear hx16
                      try clear p16
                      try clear q16
                      obtain ⟨kq, x38_10, rfl, HA, HJ10, HB⟩ := hcut
                      cases kq with
                      | zero => exact absurd HA.out (by simp [lex_quoted.j1])
                      | succ kj10 =>
                        have H := HA.out
                        clear HA
                        simp only [lex_quoted.j1] at H
                        by_cases c17 : x38_10 = true
                        · subst c17
                          have H1 : (if (xx.size : Int) > 200 then (some ((⟨#[]⟩ : ByteArray), 0)) else ((utf8_ValidString.f xx).bind fun t102 => (if t102 = true then (some (xx, (wrap64 (x5_1 + (wrap64 (t101 + 1)))))) else (some ((⟨#[]⟩ : ByteArray), 0))))) = some (r1, r2) := by rw [if_pos rfl] at H; exact H
                          clear H
                          have H := H1
                          clear H1
                          by_cases c18 : (xx.size : Int) > 200
                          · rw [if_pos c18] at H
                            have c18b0 : decide (200 < (xx.size : Int)) = true := decide_eq_true c18
                            try (have c18b0z := c18b0; simp only [ByteArray.size_extract, Nat.min_self] at c18b0z)
                            try (have c18b0y := eq_true (of_decide_eq_true c18b0); simp only [ByteArray.size_extract, Nat.min_self] at c18b0y)
                            have c18b1 : decide (200 < xx.size) = true := decide_eq_true (by omega)
                            try (have c18b1z := c18b1; simp only [ByteArray.size_extract, Nat.min_self] at c18b1z)
                            try (have c18b1y := eq_true (of_decide_eq_true c18b1); simp only [ByteArray.size_extract, Nat.min_self] at c18b1y)
                            clear c18
                            simp only [Option.some.injEq, Prod.mk.injEq] at H
                            obtain ⟨rfl, rfl⟩ := H
                            go_wp2
                            go_ret2
                            exact ⟨by first | rfl | (simp [errW_none, errW_some] <;> rfl) | (simp [*, errW_none, errW_some] <;> rfl) | (simp [*, errW_none, errW_some] <;> (generalize ByteArray.toList _ = l_; cases l_ <;> rfl)), by repeat (first | (with_reducible first | exact HB.out | apply below_alloc | apply pw_below_drewN | apply below_drew1) | exact HB.out)⟩
                          · rw [if_neg c18] at H
                            have c18b0 : decide (200 < (xx.size : Int)) = false := decide_eq_false c18
                            try (have c18b0z := c18b0; simp only [ByteArray.size_extract, Nat.min_self] at c18b0z)
                            try (have c18b0y := eq_false (of_decide_eq_false c18b0); simp only [ByteArray.size_extract, Nat.min_self] at c18b0y)
                            have c18b1 : decide (200 < xx.size) = false := decide_eq_false (by omega)
                            try (have c18b1z := c18b1; simp only [ByteArray.size_extract, Nat.min_self] at c18b1z)
                            try (have c18b1y := eq_false (of_decide_eq_false c18b1); simp only [ByteArray.size_extract, Nat.min_self] at c18b1y)
                            clear c18
                            replace H := Option.bind_eq_some_iff.mp H
                            obtain ⟨t102, A190, H⟩ := H
                            replace H : (if t102 = true then (some (xx, (wrap64 (x5_1 + (wrap64 (t101 + 1)))))) else (some ((⟨#[]⟩ : ByteArray), 0))) = some (r1, r2) := H
                            have A19 := Aside0.mk A190
                            clear A190
                            by_cases c20 : t102 = true
                            · subst c20
                              have H1 : (some (xx, (wrap64 (x5_1 + (wrap64 (t101 + 1)))))) = some (r1, r2) := by rw [if_pos rfl] at H; exact H
                              clear H
                              have H := H1
                              clear H1
                              simp only [Option.some.injEq, Prod.mk.injEq] at H
                              obtain ⟨rfl, rfl⟩ := H
                              go_wp2_with (first | (go_at_call 56; (with_reducible refine (utf8_ValidString.calls (hL := ⟨by first | exact hL.out | (refine hL.out.drawn ?_; (repeat (first | exact Drawn0.refl _ | apply Drawn0.step)); done) | (refine hL.out.below ?_; (repeat (first | (with_reducible first | exact HB.out | apply below_alloc | apply pw_below_drewN | apply below_drew1) | exact HB.out)); done)⟩) xx true _ A19.out).mono ?_); rintro e w21 ⟨rfl, hb⟩; have n0_ := Aside0.mk (below_step (by repeat (first | (with_reducible first | exact HB.out | apply below_alloc | apply pw_below_drewN | apply below_drew1) | exact HB.out)) hb); clear HB; have HB := n0_; clear n0_; (try clear hb); (try clear hb2); (try clear hk); (try clear hi)))
                              go_ret2
                              exact ⟨by first | rfl | (simp [errW_none, errW_some] <;> rfl) | (simp [*, errW_none, errW_some] <;> rfl) | (simp [*, errW_none, errW_some] <;> (generalize ByteArray.toList _ = l_; cases l_ <;> rfl)), by repeat (first | (with_reducible first | exact HB.out | apply below_alloc | apply pw_below_drewN | apply below_drew1) | exact HB.out)⟩
                            · replace c20 := Bool.eq_false_iff.mpr c20
                              subst c20
                              have H1 : (some ((⟨#[]⟩ : ByteArray), 0)) = some (r1, r2) := by rw [if_neg (show ¬ (false = true) by decide)] at H; exact H
                              clear H
                              have H := H1
                              clear H1
                              simp only [Option.some.injEq, Prod.mk.injEq] at H
                              obtain ⟨rfl, rfl⟩ := H
                              go_wp2_with (first | (go_at_call 56; (with_reducible refine (utf8_ValidString.calls (hL := ⟨by first | exact hL.out | (refine hL.out.drawn ?_; (repeat (first | exact Drawn0.refl _ | apply Drawn0.step)); done) | (refine hL.out.below ?_; (repeat (first | (with_reducible first | exact HB.out | apply below_alloc | apply pw_below_drewN | apply below_drew1) | exact HB.out)); done)⟩) xx false _ A19.out).mono ?_); rintro e w22 ⟨rfl, hb⟩; have n0_ := Aside0.mk (below_step (by repeat (first | (with_reducible first | exact HB.out | apply below_alloc | apply pw_below_drewN | apply below_drew1) | exact HB.out)) hb); clear HB; have HB := n0_; clear n0_; (try clear hb); (try clear hb2); (try clear hk); (try clear hi)))
                              go_ret2
                              exact ⟨by first | rfl | (simp [errW_none, errW_some] <;> rfl) | (simp [*, errW_none, errW_some] <;> rfl) | (simp [*, errW_none, errW_some] <;> (generalize ByteArray.toList _ = l_; cases l_ <;> rfl)), by repeat (first | (with_reducible first | exact HB.out | apply below_alloc | apply pw_below_drewN | apply below_drew1) | exact HB.out)⟩
                        · replace c17 := Bool.eq_false_iff.mpr c17
                          subst c17
                          have H1 : (if xx.size + 1 ≤ 9223372036854775807 then (lex_quoted.l0 kj10 a0 (xx ++ (⟨#[34]⟩ : ByteArray)) (wrap64 ((wrap64 (x5_1 + (wrap64 (t101 + 1)))) + 1))) else (none)) = some (r1, r2) := by rw [if_neg (show ¬ (false = true) by decide)] at H; exact H
                          clear H
                          have H := H1
                          clear H1
                          by_cases c23 : xx.size + 1 ≤ 9223372036854775807
                          · rw [if_pos c23] at H
                            have c23b0 := eq_true c23
                            have c23b1 : decide (xx.size + 1 ≤ 9223372036854775807) = true := decide_eq_true c23
                            try (have c23b1z := c23b1; simp only [ByteArray.size_extract, Nat.min_self] at c23b1z)
                            try (have c23b1y := eq_true (of_decide_eq_true c23b1); simp only [ByteArray.size_extract, Nat.min_self] at c23b1y)
                            try have c23b2 : (9223372036854775807 < xx.size + 1) = False := eq_false (Nat.not_lt.2 c23)
                            try (have c23b3 := c23b2; simp only [ByteArray.size_append] at c23b3)
                            have H' := Aside0.mk H
                            clear H
                            go_wp2
                            go_roundg kj10
                            case measure => have := HK1.out; have := HJ10.out; omega
                            case rel => exact ⟨(xx ++ (⟨#[34]⟩ : ByteArray)), (wrap64 ((wrap64 (x5_1 + (wrap64 (t101 + 1)))) + 1)), (by first | rfl | (simp; done) | (simp [*]; done)), (by first | rfl | (simp; done) | (simp [*]; done)), H', ⟨by have := HK1.out; have := HJ10.out; omega⟩, ⟨by repeat (first | (with_reducible first | exact HB.out | apply below_alloc | apply pw_below_drewN | apply below_drew1) | exact HB.out)⟩⟩
                          · rw [if_neg c23] at H
                            exact absurd H (by simp)
                  · rw [if_neg c10] at H
                    exact absurd H (by simp)
                · rw [if_neg c9] at H
                  exact absurd H (by simp)
              · rw [if_neg c8] at H
                exact absurd H (by simp)
          · rw [if_neg c4] at H
            exact absurd H (by simp)
        · rw [if_neg c3] at H
          exact absurd H (by simp)
      · rw [if_neg c2] at H
        have c2b0 : decide (x5_1 < (a0.size : Int)) = false := decide_eq_false c2
        clear c2
        simp only [Option.some.injEq, Prod.mk.injEq] at H
        obtain ⟨rfl, rfl⟩ := H
        go_wp2
        go_ret2
        exact ⟨by first | rfl | (simp [errW_none, errW_some] <;> rfl) | (simp [*, errW_none, errW_some] <;> rfl) | (simp [*, errW_none, errW_some] <;> (generalize ByteArray.toList _ = l_; cases l_ <;> rfl)), by repeat (first | (with_reducible first | exact HB.out | apply below_alloc | apply pw_below_drewN | apply below_drew1) | exact HB.out)⟩
end Go.Proofs.YtpabggjnkoehfaaDoor.ELex
end
section
namespace Go.Proofs.YtpabggjnkoehfaaDoor.ELex
open Go.RowKit Go.Proofs.YtpabggjnkoehfaaDoor.ExtL Go.Proofs.YtpabggjnkoehfaaDoorW.PrintWords Go.Proofs.YtpabggjnkoehfaaDoorW.PrintLast Go.Proofs.YtpabggjnkoehfaaDoorW.PrintMore
attribute [local go_sem] max2_int min2_int max_two min_two max_three min_three max_four min_four   
set_option linter.unusedVariables false
set_option linter.unusedSimpArgs false
def lex_run.l0 : Nat → ByteArray → Int → Option (Int)
  | 0, _, _ => none
  | k + 1, x0, x3 => if x3 < (x0.size : Int) then (if 0 ≤ x3 then (if (Go.bits .or .u8 (bt x0 x3) 32) ≥ 97 then (if (Go.bits .or .u8 (bt x0 x3) 32) ≤ 122 then (lex_run.l0 k x0 (wrap64 (x3 + 1))) else (if (bt x0 x3) ≥ 48 then (if (bt x0 x3) ≤ 57 then (lex_run.l0 k x0 (wrap64 (x3 + 1))) else (if (bt x0 x3) = 36 then (lex_run.l0 k x0 (wrap64 (x3 + 1))) else (if (bt x0 x3) = 33 then (lex_run.l0 k x0 (wrap64 (x3 + 1))) else (if (bt x0 x3) = 46 then (lex_run.l0 k x0 (wrap64 (x3 + 1))) else (some x3))))) else (if (bt x0 x3) = 36 then (lex_run.l0 k x0 (wrap64 (x3 + 1))) else (if (bt x0 x3) = 33 then (lex_run.l0 k x0 (wrap64 (x3 + 1))) else (if (bt x0 x3) = 46 then (lex_run.l0 k x0 (wrap64 (x3 + 1))) else (some x3)))))) else (if (bt x0 x3) ≥ 48 then (if (bt x0 x3) ≤ 57 then (lex_run.l0 k x0 (wrap64 (x3 + 1))) else (if (bt x0 x3) = 36 then (lex_run.l0 k x0 (wrap64 (x3 + 1))) else (if (bt x0 x3) = 33 then (lex_run.l0 k x0 (wrap64 (x3 + 1))) else (if (bt x0 x3) = 46 then (lex_run.l0 k x0 (wrap64 (x3 + 1))) else (some x3))))) else (if (bt x0 x3) = 36 then (lex_run.l0 k x0 (wrap64 (x3 + 1))) else (if (bt x0 x3) = 33 then (lex_run.l0 k x0 (wrap64 (x3 + 1))) else (if (bt x0 x3) = 46 then (lex_run.l0 k x0 (wrap64 (x3 + 1))) else (some x3)))))) else (none)) else (some x3)
def lex_run.f (k : Nat) (a0 : ByteArray) : Option (Int) := lex_run.l0 k a0 0
set_option maxHeartbeats 8000000 in
set_option maxRecDepth 100000 in
theorem lex_run.calls (k : Nat) (a0 : ByteArray) (r : Int) (w : World) (h : lex_run.f k a0 = some r) :
    Calls Tryd.prog 41 #[.string a0] w fun e w' => e = .returned (.int .i64 r) ∧ Drawn0 w w' := by
  have H : (lex_run.l0 k a0 0) = some r := h
  clear h
  have H' := Aside0.mk H
  clear H
  go_enter Tryd.func41, Tryd.ntmps41
  go_wp2
  go_loopg [3] k (fun kq v3 w' => ∃ (x3_1 : Int), v3 = .int .i64 x3_1 ∧ Aside0 (lex_run.l0 kq a0 x3_1 = some r) ∧ Aside0 (kq ≤ k) ∧ Drawn0 w w')
  case atStart => exact ⟨(0), (by first | rfl | (simp; done) | (simp [*]; done)), H', ⟨Nat.le_refl _⟩, by repeat (first | exact Drawn0.refl _ | apply Drawn0.step)⟩
  case round =>
    clear H'
    obtain ⟨x3_1, rfl, HA, HK1, ⟨m1, rfl⟩⟩ := hrel
    cases gk with
    | zero => exact absurd HA.out (by simp [lex_run.l0])
    | succ k1 =>
      have H := HA.out
      clear HA
      simp only [lex_run.l0] at H
      by_cases c2 : x3_1 < (a0.size : Int)
      · rw [if_pos c2] at H
        have c2b0 : decide (x3_1 < (a0.size : Int)) = true := decide_eq_true c2
        clear c2
        by_cases c3 : 0 ≤ x3_1
        · rw [if_pos c3] at H
          have c3b0 : decide (0 ≤ x3_1) = true := decide_eq_true c3
          clear c3
          by_cases c5 : (Go.bits .or .u8 (bt a0 x3_1) 32) ≥ 97
          · rw [if_pos c5] at H
            have c5b0 : decide (97 ≤ (Go.bits .or .u8 (bt a0 x3_1) 32)) = true := decide_eq_true c5
            clear c5
            by_cases c7 : (Go.bits .or .u8 (bt a0 x3_1) 32) ≤ 122
            · rw [if_pos c7] at H
              have c7b0 : decide ((Go.bits .or .u8 (bt a0 x3_1) 32) ≤ 122) = true := decide_eq_true c7
              clear c7
              have H' := Aside0.mk H
              clear H
              have p4 : 0 ≤ (x3_1 : Int) := of_decide_eq_true (by first | (with_reducible assumption) | assumption)
              have q4 : x3_1 < (a0.size : Int) := of_decide_eq_true (by first | (with_reducible assumption) | assumption)
              have hx4 := bt_at a0 x3_1
              replace p4 := eq_true p4
              replace q4 := eq_true q4
              try (have q4z := q4; simp only [ByteArray.size_extract, Nat.min_self] at q4z)
              have p6 : 0 ≤ (x3_1 : Int) := of_decide_eq_true (by first | (with_reducible assumption) | assumption)
              have q6 : x3_1 < (a0.size : Int) := of_decide_eq_true (by first | (with_reducible assumption) | assumption)
              have hx6 := bt_at a0 x3_1
              replace p6 := eq_true p6
              replace q6 := eq_true q6
              try (have q6z := q6; simp only [ByteArray.size_extract, Nat.min_self] at q6z)
              go_wp2
              go_roundg k1
              case measure => have := HK1.out; omega
              case rel => exact ⟨(wrap64 (x3_1 + 1)), (by first | rfl | (simp; done) | (simp [*]; done)), H', ⟨by have := HK1.out; omega⟩, by repeat (first | exact Drawn0.refl _ | apply Drawn0.step)⟩
            · rw [if_neg c7] at H
              have c7b0 : decide ((Go.bits .or .u8 (bt a0 x3_1) 32) ≤ 122) = false := decide_eq_false c7
              clear c7
              by_cases c9 : (bt a0 x3_1) ≥ 48
              · rw [if_pos c9] at H
                have c9b0 : decide (48 ≤ (bt a0 x3_1)) = true := decide_eq_true c9
                clear c9
                by_cases c11 : (bt a0 x3_1) ≤ 57
                · rw [if_pos c11] at H
                  have c11b0 : decide ((bt a0 x3_1) ≤ 57) = true := decide_eq_true c11
                  clear c11
                  have H' := Aside0.mk H
                  clear H
                  have p4 : 0 ≤ (x3_1 : Int) := of_decide_eq_true (by first | (with_reducible assumption) | assumption)
                  have q4 : x3_1 < (a0.size : Int) := of_decide_eq_true (by first | (with_reducible assumption) | assumption)
                  have hx4 := bt_at a0 x3_1
                  replace p4 := eq_true p4
                  replace q4 := eq_true q4
                  try (have q4z := q4; simp only [ByteArray.size_extract, Nat.min_self] at q4z)
                  have p6 : 0 ≤ (x3_1 : Int) := of_decide_eq_true (by first | (with_reducible assumption) | assumption)
                  have q6 : x3_1 < (a0.size : Int) := of_decide_eq_true (by first | (with_reducible assumption) | assumption)
                  have hx6 := bt_at a0 x3_1
                  replace p6 := eq_true p6
                  replace q6 := eq_true q6
                  try (have q6z := q6; simp only [ByteArray.size_extract, Nat.min_self] at q6z)
                  have p8 : 0 ≤ (x3_1 : Int) := of_decide_eq_true (by first | (with_reducible assumption) | assumption)
                  have q8 : x3_1 < (a0.size : Int) := of_decide_eq_true (by first | (with_reducible assumption) | assumption)
                  have hx8 := bt_at a0 x3_1
                  replace p8 := eq_true p8
                  replace q8 := eq_true q8
                  try (have q8z := q8; simp only [ByteArray.size_extract, Nat.min_self] at q8z)
                  have p10 : 0 ≤ (x3_1 : Int) := of_decide_eq_true (by first | (with_reducible assumption) | assumption)
                  have q10 : x3_1 < (a0.size : Int) := of_decide_eq_true (by first | (with_reducible assumption) | assumption)
                  have hx10 := bt_at a0 x3_1
                  replace p10 := eq_true p10
                  replace q10 := eq_true q10
                  try (have q10z := q10; simp only [ByteArray.size_extract, Nat.min_self] at q10z)
                  go_wp2
                  go_roundg k1
                  case measure => have := HK1.out; omega
                  case rel => exact ⟨(wrap64 (x3_1 + 1)), (by first | rfl | (simp; done) | (simp [*]; done)), H', ⟨by have := HK1.out; omega⟩, by repeat (first | exact Drawn0.refl _ | apply Drawn0.step)⟩
                · rw [if_neg c11] at H
                  have c11b0 : decide ((bt a0 x3_1) ≤ 57) = false := decide_eq_false c11
                  clear c11
                  by_cases c13 : (bt a0 x3_1) = 36
                  · rw [if_pos c13] at H
                    have c13b0 : ((bt a0 x3_1) == 36) = true := beq_iff_eq.mpr c13
                    have c13b1 : ((bt a0 x3_1) != 36) = false := bne_eq_false_iff_eq.mpr c13
                    clear c13
                    have H' := Aside0.mk H
                    clear H
                    have p4 : 0 ≤ (x3_1 : Int) := of_decide_eq_true (by first | (with_reducible assumption) | assumption)
                    have q4 : x3_1 < (a0.size : Int) := of_decide_eq_true (by first | (with_reducible assumption) | assumption)
                    have hx4 := bt_at a0 x3_1
                    replace p4 := eq_true p4
                    replace q4 := eq_true q4
                    try (have q4z := q4; simp only [ByteArray.size_extract, Nat.min_self] at q4z)
                    have p6 : 0 ≤ (x3_1 : Int) := of_decide_eq_true (by first | (with_reducible assumption) | assumption)
                    have q6 : x3_1 < (a0.size : Int) := of_decide_eq_true (by first | (with_reducible assumption) | assumption)
                    have hx6 := bt_at a0 x3_1
                    replace p6 := eq_true p6
                    replace q6 := eq_true q6
                    try (have q6z := q6; simp only [ByteArray.size_extract, Nat.min_self] at q6z)
                    have p8 : 0 ≤ (x3_1 : Int) := of_decide_eq_true (by first | (with_reducible assumption) | assumption)
                    have q8 : x3_1 < (a0.size : Int) := of_decide_eq_true (by first | (with_reducible assumption) | assumption)
                    have hx8 := bt_at a0 x3_1
                    replace p8 := eq_true p8
                    replace q8 := eq_true q8
                    try (have q8z := q8; simp only [ByteArray.size_extract, Nat.min_self] at q8z)
                    have p10 : 0 ≤ (x3_1 : Int) := of_decide_eq_true (by first | (with_reducible assumption) | assumption)
                    have q10 : x3_1 < (a0.size : Int) := of_decide_eq_true (by first | (with_reducible assumption) | assumption)
                    have hx10 := bt_at a0 x3_1
                    replace p10 := eq_true p10
                    replace q10 := eq_true q10
                    try (have q10z := q10; simp only [ByteArray.size_extract, Nat.min_self] at q10z)
                    have p12 : 0 ≤ (x3_1 : Int) := of_decide_eq_true (by first | (with_reducible assumption) | assumption)
                    have q12 : x3_1 < (a0.size : Int) := of_decide_eq_true (by first | (with_reducible assumption) | assumption)
                    have hx12 := bt_at a0 x3_1
                    replace p12 := eq_true p12
                    replace q12 := eq_true q12
                    try (have q12z := q12; simp only [ByteArray.size_extract, Nat.min_self] at q12z)
                    go_wp2
                    go_roundg k1
                    case measure => have := HK1.out; omega
                    case rel => exact ⟨(wrap64 (x3_1 + 1)), (by first | rfl | (simp; done) | (simp [*]; done)), H', ⟨by have := HK1.out; omega⟩, by repeat (first | exact Drawn0.refl _ | apply Drawn0.step)⟩
                  · rw [if_neg c13] at H
                    have c13b0 : ((bt a0 x3_1) == 36) = false := beq_eq_false_iff_ne.mpr c13
                    have c13b1 : ((bt a0 x3_1) != 36) = true := bne_iff_ne.mpr c13
                    by_cases c15 : (bt a0 x3_1) = 33
                    · rw [if_pos c15] at H
                      have c15b0 : ((bt a0 x3_1) == 33) = true := beq_iff_eq.mpr c15
                      have c15b1 : ((bt a0 x3_1) != 33) = false := bne_eq_false_iff_eq.mpr c15
                      clear c15
                      have H' := Aside0.mk H
                      clear H
                      have p4 : 0 ≤ (x3_1 : Int) := of_decide_eq_true (by first | (with_reducible assumption) | assumption)
                      have q4 : x3_1 < (a0.size : Int) := of_decide_eq_true (by first | (with_reducible assumption) | assumption)
                      have hx4 := bt_at a0 x3_1
                      replace p4 := eq_true p4
                      replace q4 := eq_true q4
                      try (have q4z := q4; simp only [ByteArray.size_extract, Nat.min_self] at q4z)
                      have p6 : 0 ≤ (x3_1 : Int) := of_decide_eq_true (by first | (with_reducible assumption) | assumption)
                      have q6 : x3_1 < (a0.size : Int) := of_decide_eq_true (by first | (with_reducible assumption) | assumption)
                      have hx6 := bt_at a0 x3_1
                      replace p6 := eq_true p6
                      replace q6 := eq_true q6
                      try (have q6z := q6; simp only [ByteArray.size_extract, Nat.min_self] at q6z)
                      have p8 : 0 ≤ (x3_1 : Int) := of_decide_eq_true (by first | (with_reducible assumption) | assumption)
                      have q8 : x3_1 < (a0.size : Int) := of_decide_eq_true (by first | (with_reducible assumption) | assumption)
                      have hx8 := bt_at a0 x3_1
                      replace p8 := eq_true p8
                      replace q8 := eq_true q8
                      try (have q8z := q8; simp only [ByteArray.size_extract, Nat.min_self] at q8z)
                      have p10 : 0 ≤ (x3_1 : Int) := of_decide_eq_true (by first | (with_reducible assumption) | assumption)
                      have q10 : x3_1 < (a0.size : Int) := of_decide_eq_true (by first | (with_reducible assumption) | assumption)
                      have hx10 := bt_at a0 x3_1
                      replace p10 := eq_true p10
                      replace q10 := eq_true q10
                      try (have q10z := q10; simp only [ByteArray.size_extract, Nat.min_self] at q10z)
                      have p12 : 0 ≤ (x3_1 : Int) := of_decide_eq_true (by first | (with_reducible assumption) | assumption)
                      have q12 : x3_1 < (a0.size : Int) := of_decide_eq_true (by first | (with_reducible assumption) | assumption)
                      have hx12 := bt_at a0 x3_1
                      replace p12 := eq_true p12
                      replace q12 := eq_true q12
                      try (have q12z := q12; simp only [ByteArray.size_extract, Nat.min_self] at q12z)
                      have p14 : 0 ≤ (x3_1 : Int) := of_decide_eq_true (by first | (with_reducible assumption) | assumption)
                      have q14 : x3_1 < (a0.size : Int) := of_decide_eq_true (by first | (with_reducible assumption) | assumption)
                      have hx14 := bt_at a0 x3_1
                      replace p14 := eq_true p14
                      replace q14 := eq_true q14
                      try (have q14z := q14; simp only [ByteArray.size_extract, Nat.min_self] at q14z)
                      go_wp2
                      go_roundg k1
                      case measure => have := HK1.out; omega
                      case rel => exact ⟨(wrap64 (x3_1 + 1)), (by first | rfl | (simp; done) | (simp [*]; done)), H', ⟨by have := HK1.out; omega⟩, by repeat (first | exact Drawn0.refl _ | apply Drawn0.step)⟩
                    · rw [if_neg c15] at H
                      have c15b0 : ((bt a0 x3_1) == 33) = false := beq_eq_false_iff_ne.mpr c15
                      have c15b1 : ((bt a0 x3_1) != 33) = true := bne_iff_ne.mpr c15
                      by_cases c17 : (bt a0 x3_1) = 46
                      · rw [if_pos c17] at H
                        have c17b0 : ((bt a0 x3_1) == 46) = true := beq_iff_eq.mpr c17
                        have c17b1 : ((bt a0 x3_1) != 46) = false := bne_eq_false_iff_eq.mpr c17
                        clear c17
                        have H' := Aside0.mk H
                        clear H
                        have p4 : 0 ≤ (x3_1 : Int) := of_decide_eq_true (by first | (with_reducible assumption) | assumption)
                        have q4 : x3_1 < (a0.size : Int) := of_decide_eq_true (by first | (with_reducible assumption) | assumption)
                        have hx4 := bt_at a0 x3_1
                        replace p4 := eq_true p4
                        replace q4 := eq_true q4
                        try (have q4z := q4; simp only [ByteArray.size_extract, Nat.min_self] at q4z)
                        have p6 : 0 ≤ (x3_1 : Int) := of_decide_eq_true (by first | (with_reducible assumption) | assumption)
                        have q6 : x3_1 < (a0.size : Int) := of_decide_eq_true (by first | (with_reducible assumption) | assumption)
                        have hx6 := bt_at a0 x3_1
                        replace p6 := eq_true p6
                        replace q6 := eq_true q6
                        try (have q6z := q6; simp only [ByteArray.size_extract, Nat.min_self] at q6z)
                        have p8 : 0 ≤ (x3_1 : Int) := of_decide_eq_true (by first | (with_reducible assumption) | assumption)
                        have q8 : x3_1 < (a0.size : Int) := of_decide_eq_true (by first | (with_reducible assumption) | assumption)
                        have hx8 := bt_at a0 x3_1
                        replace p8 := eq_true p8
                        replace q8 := eq_true q8
                        try (have q8z := q8; simp only [ByteArray.size_extract, Nat.min_self] at q8z)
                        have p10 : 0 ≤ (x3_1 : Int) := of_decide_eq_true (by first | (with_reducible assumption) | assumption)
                        have q10 : x3_1 < (a0.size : Int) := of_decide_eq_true (by first | (with_reducible assumption) | assumption)
                        have hx10 := bt_at a0 x3_1
                        replace p10 := eq_true p10
                        replace q10 := eq_true q10
                        try (have q10z := q10; simp only [ByteArray.size_extract, Nat.min_self] at q10z)
                        have p12 : 0 ≤ (x3_1 : Int) := of_decide_eq_true (by first | (with_reducible assumption) | assumption)
                        have q12 : x3_1 < (a0.size : Int) := of_decide_eq_true (by first | (with_reducible assumption) | assumption)
                        have hx12 := bt_at a0 x3_1
                        replace p12 := eq_true p12
                        replace q12 := eq_true q12
                        try (have q12z := q12; simp only [ByteArray.size_extract, Nat.min_self] at q12z)
                        have p14 : 0 ≤ (x3_1 : Int) := of_decide_eq_true (by first | (with_reducible assumption) | assumption)
                        have q14 : x3_1 < (a0.size : Int) := of_decide_eq_true (by first | (with_reducible assumption) | assumption)
                        have hx14 := bt_at a0 x3_1
                        replace p14 := eq_true p14
                        replace q14 := eq_true q14
                        try (have q14z := q14; simp only [ByteArray.size_extract, Nat.min_self] at q14z)
                        have p16 : 0 ≤ (x3_1 : Int) := of_decide_eq_true (by first | (with_reducible assumption) | assumption)
                        have q16 : x3_1 < (a0.size : Int) := of_decide_eq_true (by first | (with_reducible assumption) | assumption)
                        have hx16 := bt_at a0 x3_1
                        replace p16 := eq_true p16
                        replace q16 := eq_true q16
                        try (have q16z := q16; simp only [ByteArray.size_extract, Nat.min_self] at q16z)
                        go_wp2
                        go_roundg k1
                        case measure => have := HK1.out; omega
                        case rel => exact ⟨(wrap64 (x3_1 + 1)), (by first | rfl | (simp; done) | (simp [*]; done)), H', ⟨by have := HK1.out; omega⟩, by repeat (first | exact Drawn0.refl _ | apply Drawn0.step)⟩
                      · rw [if_neg c17] at H
                        have c17b0 : ((bt a0 x3_1) == 46) = false := beq_eq_false_iff_ne.mpr c17
                        have c17b1 : ((bt a0 x3_1) != 46) = true := bne_iff_ne.mpr c17
                        obtain rfl := Option.some.inj H
                        have p4 : 0 ≤ (x3_1 : Int) := of_decide_eq_true (by first | (with_reducible assumption) | assumption)
                        have q4 : x3_1 < (a0.size : Int) := of_decide_eq_true (by first | (with_reducible assumption) | assumption)
                        have hx4 := bt_at a0 x3_1
                        replace p4 := eq_true p4
                        replace q4 := eq_true q4
                        try (have q4z := q4; simp only [ByteArray.size_extract, Nat.min_self] at q4z)
                        have p6 : 0 ≤ (x3_1 : Int) := of_decide_eq_true (by first | (with_reducible assumption) | assumption)
                        have q6 : x3_1 < (a0.size : Int) := of_decide_eq_true (by first | (with_reducible assumption) | assumption)
                        have hx6 := bt_at a0 x3_1
                        replace p6 := eq_true p6
                        replace q6 := eq_true q6
                        try (have q6z := q6; simp only [ByteArray.size_extract, Nat.min_self] at q6z)
                        have p8 : 0 ≤ (x3_1 : Int) := of_decide_eq_true (by first | (with_reducible assumption) | assumption)
                        have q8 : x3_1 < (a0.size : Int) := of_decide_eq_true (by first | (with_reducible assumption) | assumption)
                        have hx8 := bt_at a0 x3_1
                        replace p8 := eq_true p8
                        replace q8 := eq_true q8
                        try (have q8z := q8; simp only [ByteArray.size_extract, Nat.min_self] at q8z)
                        have p10 : 0 ≤ (x3_1 : Int) := of_decide_eq_true (by first | (with_reducible assumption) | assumption)
                        have q10 : x3_1 < (a0.size : Int) := of_decide_eq_true (by first | (with_reducible assumption) | assumption)
                        have hx10 := bt_at a0 x3_1
                        replace p10 := eq_true p10
                        replace q10 := eq_true q10
                        try (have q10z := q10; simp only [ByteArray.size_extract, Nat.min_self] at q10z)
                        have p12 : 0 ≤ (x3_1 : Int) := of_decide_eq_true (by first | (with_reducible assumption) | assumption)
                        have q12 : x3_1 < (a0.size : Int) := of_decide_eq_true (by first | (with_reducible assumption) | assumption)
                        have hx12 := bt_at a0 x3_1
                        replace p12 := eq_true p12
                        replace q12 := eq_true q12
                        try (have q12z := q12; simp only [ByteArray.size_extract, Nat.min_self] at q12z)
                        have p14 : 0 ≤ (x3_1 : Int) := of_decide_eq_true (by first | (with_reducible assumption) | assumption)
                        have q14 : x3_1 < (a0.size : Int) := of_decide_eq_true (by first | (with_reducible assumption) | assumption)
                        have hx14 := bt_at a0 x3_1
                        replace p14 := eq_true p14
                        replace q14 := eq_true q14
                        try (have q14z := q14; simp only [ByteArray.size_extract, Nat.min_self] at q14z)
                        have p16 : 0 ≤ (x3_1 : Int) := of_decide_eq_true (by first | (with_reducible assumption) | assumption)
                        have q16 : x3_1 < (a0.size : Int) := of_decide_eq_true (by first | (with_reducible assumption) | assumption)
                        have hx16 := bt_at a0 x3_1
                        replace p16 := eq_true p16
                        replace q16 := eq_true q16
                        try (have q16z := q16; simp only [ByteArray.size_extract, Nat.min_self] at q16z)
                        go_wp2
                        go_ret
                        exact ⟨by first | rfl | (simp; done) | (simp [*]; done) | (simp; generalize ByteArray.toList _ = l_; cases l_ <;> rfl), by repeat (first | exact Drawn0.refl _ | apply Drawn0.step)⟩
              · rw [if_neg c9] at H
                have c9b0 : decide (48 ≤ (bt a0 x3_1)) = false := decide_eq_false c9
                clear c9
                by_cases c19 : (bt a0 x3_1) = 36
                · rw [if_pos c19] at H
                  have c19b0 : ((bt a0 x3_1) == 36) = true := beq_iff_eq.mpr c19
                  have c19b1 : ((bt a0 x3_1) != 36) = false := bne_eq_false_iff_eq.mpr c19
                  clear c19
                  have H' := Aside0.mk H
                  clear H
                  have p4 : 0 ≤ (x3_1 : Int) := of_decide_eq_true (by first | (with_reducible assumption) | assumption)
                  have q4 : x3_1 < (a0.size : Int) := of_decide_eq_true (by first | (with_reducible assumption) | assumption)
                  have hx4 := bt_at a0 x3_1
                  replace p4 := eq_true p4
                  replace q4 := eq_true q4
                  try (have q4z := q4; simp only [ByteArray.size_extract, Nat.min_self] at q4z)
                  have p6 : 0 ≤ (x3_1 : Int) := of_decide_eq_true (by first | (with_reducible assumption) | assumption)
                  have q6 : x3_1 < (a0.size : Int) := of_decide_eq_true (by first | (with_reducible assumption) | assumption)
                  have hx6 := bt_at a0 x3_1
                  replace p6 := eq_true p6
                  replace q6 := eq_true q6
                  try (have q6z := q6; simp only [ByteArray.size_extract, Nat.min_self] at q6z)
                  have p8 : 0 ≤ (x3_1 : Int) := of_decide_eq_true (by first | (with_reducible assumption) | assumption)
                  have q8 : x3_1 < (a0.size : Int) := of_decide_eq_true (by first | (with_reducible assumption) | assumption)
                  have hx8 := bt_at a0 x3_1
                  replace p8 := eq_true p8
                  replace q8 := eq_true q8
                  try (have q8z := q8; simp only [ByteArray.size_extract, Nat.min_self] at q8z)
                  have p18 : 0 ≤ (x3_1 : Int) := of_decide_eq_true (by first | (with_reducible assumption) | assumption)
                  have q18 : x3_1 < (a0.size : Int) := of_decide_eq_true (by first | (with_reducible assumption) | assumption)
                  have hx18 := bt_at a0 x3_1
                  replace p18 := eq_true p18
                  replace q18 := eq_true q18
                  try (have q18z := q18; simp only [ByteArray.size_extract, Nat.min_self] at q18z)
                  go_wp2
                  go_roundg k1
                  case measure => have := HK1.out; omega
                  case rel => exact ⟨(wrap64 (x3_1 + 1)), (by first | rfl | (simp; done) | (simp [*]; done)), H', ⟨by have := HK1.out; omega⟩, by repeat (first | exact Drawn0.refl _ | apply Drawn0.step)⟩
                · rw [if_neg c19] at H
                  have c19b0 : ((bt a0 x3_1) == 36) = false := beq_eq_false_iff_ne.mpr c19
                  have c19b1 : ((bt a0 x3_1) != 36) = true := bne_iff_ne.mpr c19
                  by_cases c21 : (bt a0 x3_1) = 33
                  · rw [if_pos c21] at H
                    have c21b0 : ((bt a0 x3_1) == 33) = true := beq_iff_eq.mpr c21
                    have c21b1 : ((bt a0 x3_1) != 33) = false := bne_eq_false_iff_eq.mpr c21
                    clear c21
                    have H' := Aside0.mk H
                    clear H
                    have p4 : 0 ≤ (x3_1 : Int) := of_decide_eq_true (by first | (with_reducible assumption) | assumption)
                    have q4 : x3_1 < (a0.size : Int) := of_decide_eq_true (by first | (with_reducible assumption) | assumption)
                    have hx4 := bt_at a0 x3_1
                    replace p4 := eq_true p4
                    replace q4 := eq_true q4
                    try (have q4z := q4; simp only [ByteArray.size_extract, Nat.min_self] at q4z)
                    have p6 : 0 ≤ (x3_1 : Int) := of_decide_eq_true (by first | (with_reducible assumption) | assumption)
                    have q6 : x3_1 < (a0.size : Int) := of_decide_eq_true (by first | (with_reducible assumption) | assumption)
                    have hx6 := bt_at a0 x3_1
                    replace p6 := eq_true p6
                    replace q6 := eq_true q6
                    try (have q6z := q6; simp only [ByteArray.size_extract, Nat.min_self] at q6z)
                    have p8 : 0 ≤ (x3_1 : Int) := of_decide_eq_true (by first | (with_reducible assumption) | assumption)
                    have q8 : x3_1 < (a0.size : Int) := of_decide_eq_true (by first | (with_reducible assumption) | assumption)
                    have hx8 := bt_at a0 x3_1
                    replace p8 := eq_true p8
                    replace q8 := eq_true q8
                    try (have q8z := q8; simp only [ByteArray.size_extract, Nat.min_self] at q8z)
                    have p18 : 0 ≤ (x3_1 : Int) := of_decide_eq_true (by first | (with_reducible assumption) | assumption)
                    have q18 : x3_1 < (a0.size : Int) := of_decide_eq_true (by first | (with_reducible assumption) | assumption)
                    have hx18 := bt_at a0 x3_1
                    replace p18 := eq_true p18
                    replace q18 := eq_true q18
                    try (have q18z := q18; simp only [ByteArray.size_extract, Nat.min_self] at q18z)
                    have p20 : 0 ≤ (x3_1 : Int) := of_decide_eq_true (by first | (with_reducible assumption) | assumption)
                    have q20 : x3_1 < (a0.size : Int) := of_decide_eq_true (by first | (with_reducible assumption) | assumption)
                    have hx20 := bt_at a0 x3_1
                    replace p20 := eq_true p20
                    replace q20 := eq_true q20
                    try (have q20z := q20; simp only [ByteArray.size_extract, Nat.min_self] at q20z)
                    go_wp2
                    go_roundg k1
                    case measure => have := HK1.out; omega
                    case rel => exact ⟨(wrap64 (x3_1 + 1)), (by first | rfl | (simp; done) | (simp [*]; done)), H', ⟨by have := HK1.out; omega⟩, by repeat (first | exact Drawn0.refl _ | apply Drawn0.step)⟩
                  · rw [if_neg c21] at H
                    have c21b0 : ((bt a0 x3_1) == 33) = false := beq_eq_false_iff_ne.mpr c21
                    have c21b1 : ((bt a0 x3_1) != 33) = true := bne_iff_ne.mpr c21
                    by_cases c23 : (bt a0 x3_1) = 46
                    · rw [if_pos c23] at H
                      have c23b0 : ((bt a0 x3_1) == 46) = true := beq_iff_eq.mpr c23
                      have c23b1 : ((bt a0 x3_1) != 46) = false := bne_eq_false_iff_eq.mpr c23
                      clear c23
                      have H' := Aside0.mk H
                      clear H
                      have p4 : 0 ≤ (x3_1 : Int) := of_decide_eq_true (by first | (with_reducible assumption) | assumption)
                      have q4 : x3_1 < (a0.size : Int) := of_decide_eq_true (by first | (with_reducible assumption) | assumption)
                      have hx4 := bt_at a0 x3_1
                      replace p4 := eq_true p4
                      replace q4 := eq_true q4
                      try (have q4z := q4; simp only [ByteArray.size_extract, Nat.min_self] at q4z)
                      have p6 : 0 ≤ (x3_1 : Int) := of_decide_eq_true (by first | (with_reducible assumption) | assumption)
                      have q6 : x3_1 < (a0.size : Int) := of_decide_eq_true (by first | (with_reducible assumption) | assumption)
                      have hx6 := bt_at a0 x3_1
                      replace p6 := eq_true p6
                      replace q6 := eq_true q6
                      try (have q6z := q6; simp only [ByteArray.size_extract, Nat.min_self] at q6z)
                      have p8 : 0 ≤ (x3_1 : Int) := of_decide_eq_true (by first | (with_reducible assumption) | assumption)
                      have q8 : x3_1 < (a0.size : Int) := of_decide_eq_true (by first | (with_reducible assumption) | assumption)
                      have hx8 := bt_at a0 x3_1
                      replace p8 := eq_true p8
                      replace q8 := eq_true q8
                      try (have q8z := q8; simp only [ByteArray.size_extract, Nat.min_self] at q8z)
                      have p18 : 0 ≤ (x3_1 : Int) := of_decide_eq_true (by first | (with_reducible assumption) | assumption)
                      have q18 : x3_1 < (a0.size : Int) := of_decide_eq_true (by first | (with_reducible assumption) | assumption)
                      have hx18 := bt_at a0 x3_1
                      replace p18 := eq_true p18
                      replace q18 := eq_true q18
                      try (have q18z := q18; simp only [ByteArray.size_extract, Nat.min_self] at q18z)
                      have p20 : 0 ≤ (x3_1 : Int) := of_decide_eq_true (by first | (with_reducible assumption) | assumption)
                      have q20 : x3_1 < (a0.size : Int) := of_decide_eq_true (by first | (with_reducible assumption) | assumption)
                      have hx20 := bt_at a0 x3_1
                      replace p20 := eq_true p20
                      replace q20 := eq_true q20
                      try (have q20z := q20; simp only [ByteArray.size_extract, Nat.min_self] at q20z)
                      have p22 : 0 ≤ (x3_1 : Int) := of_decide_eq_true (by first | (with_reducible assumption) | assumption)
                      have q22 : x3_1 < (a0.size : Int) := of_decide_eq_true (by first | (with_reducible assumption) | assumption)
                      have hx22 := bt_at a0 x3_1
                      replace p22 := eq_true p22
                      replace q22 := eq_true q22
                      try (have q22z := q22; simp only [ByteArray.size_extract, Nat.min_self] at q22z)
                      go_wp2
                      go_roundg k1
                      case measure => have := HK1.out; omega
                      case rel => exact ⟨(wrap64 (x3_1 + 1)), (by first | rfl | (simp; done) | (simp [*]; done)), H', ⟨by have := HK1.out; omega⟩, by repeat (first | exact Drawn0.refl _ | apply Drawn0.step)⟩
                    · rw [if_neg c23] at H
                      have c23b0 : ((bt a0 x3_1) == 46) = false := beq_eq_false_iff_ne.mpr c23
                      have c23b1 : ((bt a0 x3_1) != 46) = true := bne_iff_ne.mpr c23
                      obtain rfl := Option.some.inj H
                      have p4 : 0 ≤ (x3_1 : Int) := of_decide_eq_true (by first | (with_reducible assumption) | assumption)
                      have q4 : x3_1 < (a0.size : Int) := of_decide_eq_true (by first | (with_reducible assumption) | assumption)
                      have hx4 := bt_at a0 x3_1
                      replace p4 := eq_true p4
                      replace q4 := eq_true q4
                      try (have q4z := q4; simp only [ByteArray.size_extract, Nat.min_self] at q4z)
                      have p6 : 0 ≤ (x3_1 : Int) := of_decide_eq_true (by first | (with_reducible assumption) | assumption)
                      have q6 : x3_1 < (a0.size : Int) := of_decide_eq_true (by first | (with_reducible assumption) | assumption)
                      have hx6 := bt_at a0 x3_1
                      replace p6 := eq_true p6
                      replace q6 := eq_true q6
                      try (have q6z := q6; simp only [ByteArray.size_extract, Nat.min_self] at q6z)
                      have p8 : 0 ≤ (x3_1 : Int) := of_decide_eq_true (by first | (with_reducible assumption) | assumption)
                      have q8 : x3_1 < (a0.size : Int) := of_decide_eq_true (by first | (with_reducible assumption) | assumption)
                      have hx8 := bt_at a0 x3_1
                      replace p8 := eq_true p8
                      replace q8 := eq_true q8
                      try (have q8z := q8; simp only [ByteArray.size_extract, Nat.min_self] at q8z)
                      have p18 : 0 ≤ (x3_1 : Int) := of_decide_eq_true (by first | (with_reducible assumption) | assumption)
                      have q18 : x3_1 < (a0.size : Int) := of_decide_eq_true (by first | (with_reducible assumption) | assumption)
                      have hx18 := bt_at a0 x3_1
                      replace p18 := eq_true p18
                      replace q18 := eq_true q18
                      try (have q18z := q18; simp only [ByteArray.size_extract, Nat.min_self] at q18z)
                      have p20 : 0 ≤ (x3_1 : Int) := of_decide_eq_true (by first | (with_reducible assumption) | assumption)
                      have q20 : x3_1 < (a0.size : Int) := of_decide_eq_true (by first | (with_reducible assumption) | assumption)
                      have hx20 := bt_at a0 x3_1
                      replace p20 := eq_true p20
                      replace q20 := eq_true q20
                      try (have q20z := q20; simp only [ByteArray.size_extract, Nat.min_self] at q20z)
                      have p22 : 0 ≤ (x3_1 : Int) := of_decide_eq_true (by first | (with_reducible assumption) | assumption)
                      have q22 : x3_1 < (a0.size : Int) := of_decide_eq_true (by first | (with_reducible assumption) | assumption)
                      have hx22 := bt_at a0 x3_1
                      replace p22 := eq_true p22
                      replace q22 := eq_true q22
                      try (have q22z := q22; simp only [ByteArray.size_extract, Nat.min_self] at q22z)
                      go_wp2
                      go_ret
                      exact ⟨by first | rfl | (simp; done) | (simp [*]; done) | (simp; generalize ByteArray.toList _ = l_; cases l_ <;> rfl), by repeat (first | exact Drawn0.refl _ | apply Drawn0.step)⟩
          · rw [if_neg c5] at H
            have c5b0 : decide (97 ≤ (Go.bits .or .u8 (bt a0 x3_1) 32)) = false := decide_eq_false c5
            clear c5
            by_cases c25 : (bt a0 x3_1) ≥ 48
            · rw [if_pos c25] at H
              have c25b0 : decide (48 ≤ (bt a0 x3_1)) = true := decide_eq_true c25
              clear c25
              by_cases c27 : (bt a0 x3_1) ≤ 57
              · rw [if_pos c27] at H
                have c27b0 : decide ((bt a0 x3_1) ≤ 57) = true := decide_eq_true c27
                clear c27
                have H' := Aside0.mk H
                clear H
                have p4 : 0 ≤ (x3_1 : Int) := of_decide_eq_true (by first | (with_reducible assumption) | assumption)
                have q4 : x3_1 < (a0.size : Int) := of_decide_eq_true (by first | (with_reducible assumption) | assumption)
                have hx4 := bt_at a0 x3_1
                replace p4 := eq_true p4
                replace q4 := eq_true q4
                try (have q4z := q4; simp only [ByteArray.size_extract, Nat.min_self] at q4z)
                have p24 : 0 ≤ (x3_1 : Int) := of_decide_eq_true (by first | (with_reducible assumption) | assumption)
                have q24 : x3_1 < (a0.size : Int) := of_decide_eq_true (by first | (with_reducible assumption) | assumption)
                have hx24 := bt_at a0 x3_1
                replace p24 := eq_true p24
                replace q24 := eq_true q24
                try (have q24z := q24; simp only [ByteArray.size_extract, Nat.min_self] at q24z)
                have p26 : 0 ≤ (x3_1 : Int) := of_decide_eq_true (by first | (with_reducible assumption) | assumption)
                have q26 : x3_1 < (a0.size : Int) := of_decide_eq_true (by first | (with_reducible assumption) | assumption)
                have hx26 := bt_at a0 x3_1
                replace p26 := eq_true p26
                replace q26 := eq_true q26
                try (have q26z := q26; simp only [ByteArray.size_extract, Nat.min_self] at q26z)
                go_wp2
                go_roundg k1
                case measure => have := HK1.out; omega
                case rel => exact ⟨(wrap64 (x3_1 + 1)), (by first | rfl | (simp; done) | (simp [*]; done)), H', ⟨by have := HK1.out; omega⟩, by repeat (first | exact Drawn0.refl _ | apply Drawn0.step)⟩
              · rw [if_neg c27] at H
                have c27b0 : decide ((bt a0 x3_1) ≤ 57) = false := decide_eq_false c27
                clear c27
                by_cases c29 : (bt a0 x3_1) = 36
                · rw [if_pos c29] at H
                  have c29b0 : ((bt a0 x3_1) == 36) = true := beq_iff_eq.mpr c29
                  have c29b1 : ((bt a0 x3_1) != 36) = false := bne_eq_false_iff_eq.mpr c29
                  clear c29
                  have H' := Aside0.mk H
                  clear H
                  have p4 : 0 ≤ (x3_1 : Int) := of_decide_eq_true (by first | (with_reducible assumption) | assumption)
                  have q4 : x3_1 < (a0.size : Int) := of_decide_eq_true (by first | (with_reducible assumption) | assumption)
                  have hx4 := bt_at a0 x3_1
                  replace p4 := eq_true p4
                  replace q4 := eq_true q4
                  try (have q4z := q4; simp only [ByteArray.size_extract, Nat.min_self] at q4z)
                  have p24 : 0 ≤ (x3_1 : Int) := of_decide_eq_true (by first | (with_reducible assumption) | assumption)
                  have q24 : x3_1 < (a0.size : Int) := of_decide_eq_true (by first | (with_reducible assumption) | assumption)
                  have hx24 := bt_at a0 x3_1
                  replace p24 := eq_true p24
                  replace q24 := eq_true q24
                  try (have q24z := q24; simp only [ByteArray.size_extract, Nat.min_self] at q24z)
                  have p26 : 0 ≤ (x3_1 : Int) := of_decide_eq_true (by first | (with_reducible assumption) | assumption)
                  have q26 : x3_1 < (a0.size : Int) := of_decide_eq_true (by first | (with_reducible assumption) | assumption)
                  have hx26 := bt_at a0 x3_1
                  replace p26 := eq_true p26
                  replace q26 := eq_true q26
                  try (have q26z := q26; simp only [ByteArray.size_extract, Nat.min_self] at q26z)
                  have p28 : 0 ≤ (x3_1 : Int) := of_decide_eq_true (by first | (with_reducible assumption) | assumption)
                  have q28 : x3_1 < (a0.size : Int) := of_decide_eq_true (by first | (with_reducible assumption) | assumption)
                  have hx28 := bt_at a0 x3_1
                  replace p28 := eq_true p28
                  replace q28 := eq_true q28
                  try (have q28z := q28; simp only [ByteArray.size_extract, Nat.min_self] at q28z)
                  go_wp2
                  go_roundg k1
                  case measure => have := HK1.out; omega
                  case rel => exact ⟨(wrap64 (x3_1 + 1)), (by first | rfl | (simp; done) | (simp [*]; done)), H', ⟨by have := HK1.out; omega⟩, by repeat (first | exact Drawn0.refl _ | apply Drawn0.step)⟩
                · rw [if_neg c29] at H
                  have c29b0 : ((bt a0 x3_1) == 36) = false := beq_eq_false_iff_ne.mpr c29
                  have c29b1 : ((bt a0 x3_1) != 36) = true := bne_iff_ne.mpr c29
                  by_cases c31 : (bt a0 x3_1) = 33
                  · rw [if_pos c31] at H
                    have c31b0 : ((bt a0 x3_1) == 33) = true := beq_iff_eq.mpr c31
                    have c31b1 : ((bt a0 x3_1) != 33) = false := bne_eq_false_iff_eq.mpr c31
                    clear c31
                    have H' := Aside0.mk H
                    clear H
                    have p4 : 0 ≤ (x3_1 : Int) := of_decide_eq_true (by first | (with_reducible assumption) | assumption)
                    have q4 : x3_1 < (a0.size : Int) := of_decide_eq_true (by first | (with_reducible assumption) | assumption)
                    have hx4 := bt_at a0 x3_1
                    replace p4 := eq_true p4
                    replace q4 := eq_true q4
                    try (have q4z := q4; simp only [ByteArray.size_extract, Nat.min_self] at q4z)
                    have p24 : 0 ≤ (x3_1 : Int) := of_decide_eq_true (by first | (with_reducible assumption) | assumption)
                    have q24 : x3_1 < (a0.size : Int) := of_decide_eq_true (by first | (with_reducible assumption) | assumption)
                    have hx24 := bt_at a0 x3_1
                    replace p24 := eq_true p24
                    replace q24 := eq_true q24
                    try (have q24z := q24; simp only [ByteArray.size_extract, Nat.min_self] at q24z)
                    have p26 : 0 ≤ (x3_1 : Int) := of_decide_eq_true (by first | (with_reducible assumption) | assumption)
                    have q26 : x3_1 < (a0.size : Int) := of_decide_eq_true (by first | (with_reducible assumption) | assumption)
                    have hx26 := bt_at a0 x3_1
                    replace p26 := eq_true p26
                    replace q26 := eq_true q26
                    try (have q26z := q26; simp only [ByteArray.size_extract, Nat.min_self] at q26z)
                    have p28 : 0 ≤ (x3_1 : Int) := of_decide_eq_true (by first | (with_reducible assumption) | assumption)
                    have q28 : x3_1 < (a0.size : Int) := of_decide_eq_true (by first | (with_reducible assumption) | assumption)
                    have hx28 := bt_at a0 x3_1
                    replace p28 := eq_true p28
                    replace q28 := eq_true q28
                    try (have q28z := q28; simp only [ByteArray.size_extract, Nat.min_self] at q28z)
                    have p30 : 0 ≤ (x3_1 : Int) := of_decide_eq_true (by first | (with_reducible assumption) | assumption)
                    have q30 : x3_1 < (a0.size : Int) := of_decide_eq_true (by first | (with_reducible assumption) | assumption)
                    have hx30 := bt_at a0 x3_1
                    replace p30 := eq_true p30
                    replace q30 := eq_true q30
                    try (have q30z := q30; simp only [ByteArray.size_extract, Nat.min_self] at q30z)
                    go_wp2
                    go_roundg k1
                    case measure => have := HK1.out; omega
                    case rel => exact ⟨(wrap64 (x3_1 + 1)), (by first | rfl | (simp; done) | (simp [*]; done)), H', ⟨by have := HK1.out; omega⟩, by repeat (first | exact Drawn0.refl _ | apply Drawn0.step)⟩
                  · rw [if_neg c31] at H
                    have c31b0 : ((bt a0 x3_1) == 33) = false := beq_eq_false_iff_ne.mpr c31
                    have c31b1 : ((bt a0 x3_1) != 33) = true := bne_iff_ne.mpr c31
                    by_cases c33 : (bt a0 x3_1) = 46
                    · rw [if_pos c33] at H
                      have c33b0 : ((bt a0 x3_1) == 46) = true := beq_iff_eq.mpr c33
                      have c33b1 : ((bt a0 x3_1) != 46) = false := bne_eq_false_iff_eq.mpr c33
                      clear c33
                      have H' := Aside0.mk H
                      clear H
                      have p4 : 0 ≤ (x3_1 : Int) := of_decide_eq_true (by first | (with_reducible assumption) | assumption)
                      have q4 : x3_1 < (a0.size : Int) := of_decide_eq_true (by first | (with_reducible assumption) | assumption)
                      have hx4 := bt_at a0 x3_1
                      replace p4 := eq_true p4
                      replace q4 := eq_true q4
                      try (have q4z := q4; simp only [ByteArray.size_extract, Nat.min_self] at q4z)
                      have p24 : 0 ≤ (x3_1 : Int) := of_decide_eq_true (by first | (with_reducible assumption) | assumption)
                      have q24 : x3_1 < (a0.size : Int) := of_decide_eq_true (by first | (with_reducible assumption) | assumption)
                      have hx24 := bt_at a0 x3_1
                      replace p24 := eq_true p24
                      replace q24 := eq_true q24
                      try (have q24z := q24; simp only [ByteArray.size_extract, Nat.min_self] at q24z)
                      have p26 : 0 ≤ (x3_1 : Int) := of_decide_eq_true (by first | (with_reducible assumption) | assumption)
                      have q26 : x3_1 < (a0.size : Int) := of_decide_eq_true (by first | (with_reducible assumption) | assumption)
                      have hx26 := bt_at a0 x3_1
                      replace p26 := eq_true p26
                      replace q26 := eq_true q26
                      try (have q26z := q26; simp only [ByteArray.size_extract, Nat.min_self] at q26z)
                      have p28 : 0 ≤ (x3_1 : Int) := of_decide_eq_true (by first | (with_reducible assumption) | assumption)
                      have q28 : x3_1 < (a0.size : Int) := of_decide_eq_true (by first | (with_reducible assumption) | assumption)
                      have hx28 := bt_at a0 x3_1
                      replace p28 := eq_true p28
                      replace q28 := eq_true q28
                      try (have q28z := q28; simp only [ByteArray.size_extract, Nat.min_self] at q28z)
                      have p30 : 0 ≤ (x3_1 : Int) := of_decide_eq_true (by first | (with_reducible assumption) | assumption)
                      have q30 : x3_1 < (a0.size : Int) := of_decide_eq_true (by first | (with_reducible assumption) | assumption)
                      have hx30 := bt_at a0 x3_1
                      replace p30 := eq_true p30
                      replace q30 := eq_true q30
                      try (have q30z := q30; simp only [ByteArray.size_extract, Nat.min_self] at q30z)
                      have p32 : 0 ≤ (x3_1 : Int) := of_decide_eq_true (by first | (with_reducible assumption) | assumption)
                      have q32 : x3_1 < (a0.size : Int) := of_decide_eq_true (by first | (with_reducible assumption) | assumption)
                      have hx32 := bt_at a0 x3_1
                      replace p32 := eq_true p32
                      replace q32 := eq_true q32
                      try (have q32z := q32; simp only [ByteArray.size_extract, Nat.min_self] at q32z)
                      go_wp2
                      go_roundg k1
                      case measure => have := HK1.out; omega
                      case rel => exact ⟨(wrap64 (x3_1 + 1)), (by first | rfl | (simp; done) | (simp [*]; done)), H', ⟨by have := HK1.out; omega⟩, by repeat (first | exact Drawn0.refl _ | apply Drawn0.step)⟩
                    · rw [if_neg c33] at H
                      have c33b0 : ((bt a0 x3_1) == 46) = false := beq_eq_false_iff_ne.mpr c33
                      have c33b1 : ((bt a0 x3_1) != 46) = true := bne_iff_ne.mpr c33
                      obtain rfl := Option.some.inj H
                      have p4 : 0 ≤ (x3_1 : Int) := of_decide_eq_true (by first | (with_reducible assumption) | assumption)
                      have q4 : x3_1 < (a0.size : Int) := of_decide_eq_true (by first | (with_reducible assumption) | assumption)
                      have hx4 := bt_at a0 x3_1
                      replace p4 := eq_true p4
                      replace q4 := eq_true q4
                      try (have q4z := q4; simp only [ByteArray.size_extract, Nat.min_self] at q4z)
                      have p24 : 0 ≤ (x3_1 : Int) := of_decide_eq_true (by first | (with_reducible assumption) | assumption)
                      have q24 : x3_1 < (a0.size : Int) := of_decide_eq_true (by first | (with_reducible assumption) | assumption)
                      have hx24 := bt_at a0 x3_1
                      replace p24 := eq_true p24
                      replace q24 := eq_true q24
                      try (have q24z := q24; simp only [ByteArray.size_extract, Nat.min_self] at q24z)
                      have p26 : 0 ≤ (x3_1 : Int) := of_decide_eq_true (by first | (with_reducible assumption) | assumption)
                      have q26 : x3_1 < (a0.size : Int) := of_decide_eq_true (by first | (with_reducible assumption) | assumption)
                      have hx26 := bt_at a0 x3_1
                      replace p26 := eq_true p26
                      replace q26 := eq_true q26
                      try (have q26z := q26; simp only [ByteArray.size_extract, Nat.min_self] at q26z)
                      have p28 : 0 ≤ (x3_1 : Int) := of_decide_eq_true (by first | (with_reducible assumption) | assumption)
                      have q28 : x3_1 < (a0.size : Int) := of_decide_eq_true (by first | (with_reducible assumption) | assumption)
                      have hx28 := bt_at a0 x3_1
                      replace p28 := eq_true p28
                      replace q28 := eq_true q28
                      try (have q28z := q28; simp only [ByteArray.size_extract, Nat.min_self] at q28z)
                      have p30 : 0 ≤ (x3_1 : Int) := of_decide_eq_true (by first | (with_reducible assumption) | assumption)
                      have q30 : x3_1 < (a0.size : Int) := of_decide_eq_true (by first | (with_reducible assumption) | assumption)
                      have hx30 := bt_at a0 x3_1
                      replace p30 := eq_true p30
                      replace q30 := eq_true q30
                      try (have q30z := q30; simp only [ByteArray.size_extract, Nat.min_self] at q30z)
                      have p32 : 0 ≤ (x3_1 : Int) := of_decide_eq_true (by first | (with_reducible assumption) | assumption)
                      have q32 : x3_1 < (a0.size : Int) := of_decide_eq_true (by first | (with_reducible assumption) | assumption)
                      have hx32 := bt_at a0 x3_1
                      replace p32 := eq_true p32
                      replace q32 := eq_true q32
                      try (have q32z := q32; simp only [ByteArray.size_extract, Nat.min_self] at q32z)
                      go_wp2
                      go_ret
                      exact ⟨by first | rfl | (simp; done) | (simp [*]; done) | (simp; generalize ByteArray.toList _ = l_; cases l_ <;> rfl), by repeat (first | exact Drawn0.refl _ | apply Drawn0.step)⟩
            · rw [if_neg c25] at H
              have c25b0 : decide (48 ≤ (bt a0 x3_1)) = false := decide_eq_false c25
              clear c25
              by_cases c35 : (bt a0 x3_1) = 36
              · rw [if_pos c35] at H
                have c35b0 : ((bt a0 x3_1) == 36) = true := beq_iff_eq.mpr c35
                have c35b1 : ((bt a0 x3_1) != 36) = false := bne_eq_false_iff_eq.mpr c35
                clear c35
                have H' := Aside0.mk H
                clear H
                have p4 : 0 ≤ (x3_1 : Int) := of_decide_eq_true (by first | (with_reducible assumption) | assumption)
                have q4 : x3_1 < (a0.size : Int) := of_decide_eq_true (by first | (with_reducible assumption) | assumption)
                have hx4 := bt_at a0 x3_1
                replace p4 := eq_true p4
                replace q4 := eq_true q4
                try (have q4z := q4; simp only [ByteArray.size_extract, Nat.min_self] at q4z)
                have p24 : 0 ≤ (x3_1 : Int) := of_decide_eq_true (by first | (with_reducible assumption) | assumption)
                have q24 : x3_1 < (a0.size : Int) := of_decide_eq_true (by first | (with_reducible assumption) | assumption)
                have hx24 := bt_at a0 x3_1
                replace p24 := eq_true p24
                replace q24 := eq_true q24
                try (have q24z := q24; simp only [ByteArray.size_extract, Nat.min_self] at q24z)
                have p34 : 0 ≤ (x3_1 : Int) := of_decide_eq_true (by first | (with_reducible assumption) | assumption)
                have q34 : x3_1 < (a0.size : Int) := of_decide_eq_true (by first | (with_reducible assumption) | assumption)
                have hx34 := bt_at a0 x3_1
                replace p34 := eq_true p34
                replace q34 := eq_true q34
                try (have q34z := q34; simp only [ByteArray.size_extract, Nat.min_self] at q34z)
                go_wp2
                go_roundg k1
                case measure => have := HK1.out; omega
                case rel => exact ⟨(wrap64 (x3_1 + 1)), (by first | rfl | (simp; done) | (simp [*]; done)), H', ⟨by have := HK1.out; omega⟩, by repeat (first | exact Drawn0.refl _ | apply Drawn0.step)⟩
              · rw [if_neg c35] at H
                have c35b0 : ((bt a0 x3_1) == 36) = false := beq_eq_false_iff_ne.mpr c35
                have c35b1 : ((bt a0 x3_1) != 36) = true := bne_iff_ne.mpr c35
                by_cases c37 : (bt a0 x3_1) = 33
                · rw [if_pos c37] at H
                  have c37b0 : ((bt a0 x3_1) == 33) = true := beq_iff_eq.mpr c37
                  have c37b1 : ((bt a0 x3_1) != 33) = false := bne_eq_false_iff_eq.mpr c37
                  clear c37
                  have H' := Aside0.mk H
                  clear H
                  have p4 : 0 ≤ (x3_1 : Int) := of_decide_eq_true (by first | (with_reducible assumption) | assumption)
                  have q4 : x3_1 < (a0.size : Int) := of_decide_eq_true (by first | (with_reducible assumption) | assumption)
                  have hx4 := bt_at a0 x3_1
                  replace p4 := eq_true p4
                  replace q4 := eq_true q4
                  try (have q4z := q4; simp only [ByteArray.size_extract, Nat.min_self] at q4z)
                  have p24 : 0 ≤ (x3_1 : Int) := of_decide_eq_true (by first | (with_reducible assumption) | assumption)
                  have q24 : x3_1 < (a0.size : Int) := of_decide_eq_true (by first | (with_reducible assumption) | assumption)
                  have hx24 := bt_at a0 x3_1
                  replace p24 := eq_true p24
                  replace q24 := eq_true q24
                  try (have q24z := q24; simp only [ByteArray.size_extract, Nat.min_self] at q24z)
                  have p34 : 0 ≤ (x3_1 : Int) := of_decide_eq_true (by first | (with_reducible assumption) | assumption)
                  have q34 : x3_1 < (a0.size : Int) := of_decide_eq_true (by first | (with_reducible assumption) | assumption)
                  have hx34 := bt_at a0 x3_1
                  replace p34 := eq_true p34
                  replace q34 := eq_true q34
                  try (have q34z := q34; simp only [ByteArray.size_extract, Nat.min_self] at q34z)
                  have p36 : 0 ≤ (x3_1 : Int) := of_decide_eq_true (by first | (with_reducible assumption) | assumption)
                  have q36 : x3_1 < (a0.size : Int) := of_decide_eq_true (by first | (with_reducible assumption) | assumption)
                  have hx36 := bt_at a0 x3_1
                  replace p36 := eq_true p36
                  replace q36 := eq_true q36
                  try (have q36z := q36; simp only [ByteArray.size_extract, Nat.min_self] at q36z)
                  go_wp2
                  go_roundg k1
                  case measure => have := HK1.out; omega
                  case rel => exact ⟨(wrap64 (x3_1 + 1)), (by first | rfl | (simp; done) | (simp [*]; done)), H', ⟨by have := HK1.out; omega⟩, by repeat (first | exact Drawn0.refl _ | apply Drawn0.step)⟩
                · rw [if_neg c37] at H
                  have c37b0 : ((bt a0 x3_1) == 33) = false := beq_eq_false_iff_ne.mpr c37
                  have c37b1 : ((bt a0 x3_1) != 33) = true := bne_iff_ne.mpr c37
                  by_cases c39 : (bt a0 x3_1) = 46
                  · rw [if_pos c39] at H
                    have c39b0 : ((bt a0 x3_1) == 46) = true := beq_iff_eq.mpr c39
                    have c39b1 : ((bt a0 x3_1) != 46) = false := bne_eq_false_iff_eq.mpr c39
                    clear c39
                    have H' := Aside0.mk H
                    clear H
                    have p4 : 0 ≤ (x3_1 : Int) := of_decide_eq_true (by first | (with_reducible assumption) | assumption)
                    have q4 : x3_1 < (a0.size : Int) := of_decide_eq_true (by first | (with_reducible assumption) | assumption)
                    have hx4 := bt_at a0 x3_1
                    replace p4 := eq_true p4
                    replace q4 := eq_true q4
                    try (have q4z := q4; simp only [ByteArray.size_extract, Nat.min_self] at q4z)
                    have p24 : 0 ≤ (x3_1 : Int) := of_decide_eq_true (by first | (with_reducible assumption) | assumption)
                    have q24 : x3_1 < (a0.size : Int) := of_decide_eq_true (by first | (with_reducible assumption) | assumption)
                    have hx24 := bt_at a0 x3_1
                    replace p24 := eq_true p24
                    replace q24 := eq_true q24
                    try (have q24z := q24; simp only [ByteArray.size_extract, Nat.min_self] at q24z)
                    have p34 : 0 ≤ (x3_1 : Int) := of_decide_eq_true (by first | (with_reducible assumption) | assumption)
                    have q34 : x3_1 < (a0.size : Int) := of_decide_eq_true (by first | (with_reducible assumption) | assumption)
                    have hx34 := bt_at a0 x3_1
                    replace p34 := eq_true p34
                    replace q34 := eq_true q34
                    try (have q34z := q34; simp only [ByteArray.size_extract, Nat.min_self] at q34z)
                    have p36 : 0 ≤ (x3_1 : Int) := of_decide_eq_true (by first | (with_reducible assumption) | assumption)
                    have q36 : x3_1 < (a0.size : Int) := of_decide_eq_true (by first | (with_reducible assumption) | assumption)
                    have hx36 := bt_at a0 x3_1
                    replace p36 := eq_true p36
                    replace q36 := eq_true q36
                    try (have q36z := q36; simp only [ByteArray.size_extract, Nat.min_self] at q36z)
                    have p38 : 0 ≤ (x3_1 : Int) := of_decide_eq_true (by first | (with_reducible assumption) | assumption)
                    have q38 : x3_1 < (a0.size : Int) := of_decide_eq_true (by first | (with_reducible assumption) | assumption)
                    have hx38 := bt_at a0 x3_1
                    replace p38 := eq_true p38
                    replace q38 := eq_true q38
                    try (have q38z := q38; simp only [ByteArray.size_extract, Nat.min_self] at q38z)
                    go_wp2
                    go_roundg k1
                    case measure => have := HK1.out; omega
                    case rel => exact ⟨(wrap64 (x3_1 + 1)), (by first | rfl | (simp; done) | (simp [*]; done)), H', ⟨by have := HK1.out; omega⟩, by repeat (first | exact Drawn0.refl _ | apply Drawn0.step)⟩
                  · rw [if_neg c39] at H
                    have c39b0 : ((bt a0 x3_1) == 46) = false := beq_eq_false_iff_ne.mpr c39
                    have c39b1 : ((bt a0 x3_1) != 46) = true := bne_iff_ne.mpr c39
                    obtain rfl := Option.some.inj H
                    have p4 : 0 ≤ (x3_1 : Int) := of_decide_eq_true (by first | (with_reducible assumption) | assumption)
                    have q4 : x3_1 < (a0.size : Int) := of_decide_eq_true (by first | (with_reducible assumption) | assumption)
                    have hx4 := bt_at a0 x3_1
                    replace p4 := eq_true p4
                    replace q4 := eq_true q4
                    try (have q4z := q4; simp only [ByteArray.size_extract, Nat.min_self] at q4z)
                    have p24 : 0 ≤ (x3_1 : Int) := of_decide_eq_true (by first | (with_reducible assumption) | assumption)
                    have q24 : x3_1 < (a0.size : Int) := of_decide_eq_true (by first | (with_reducible assumption) | assumption)
                    have hx24 := bt_at a0 x3_1
                    replace p24 := eq_true p24
                    replace q24 := eq_true q24
                    try (have q24z := q24; simp only [ByteArray.size_extract, Nat.min_self] at q24z)
                    have p34 : 0 ≤ (x3_1 : Int) := of_decide_eq_true (by first | (with_reducible assumption) | assumption)
                    have q34 : x3_1 < (a0.size : Int) := of_decide_eq_true (by first | (with_reducible assumption) | assumption)
                    have hx34 := bt_at a0 x3_1
                    replace p34 := eq_true p34
                    replace q34 := eq_true q34
                    try (have q34z := q34; simp only [ByteArray.size_extract, Nat.min_self] at q34z)
                    have p36 : 0 ≤ (x3_1 : Int) := of_decide_eq_true (by first | (with_reducible assumption) | assumption)
                    have q36 : x3_1 < (a0.size : Int) := of_decide_eq_true (by first | (with_reducible assumption) | assumption)
                    have hx36 := bt_at a0 x3_1
                    replace p36 := eq_true p36
                    replace q36 := eq_true q36
                    try (have q36z := q36; simp only [ByteArray.size_extract, Nat.min_self] at q36z)
                    have p38 : 0 ≤ (x3_1 : Int) := of_decide_eq_true (by first | (with_reducible assumption) | assumption)
                    have q38 : x3_1 < (a0.size : Int) := of_decide_eq_true (by first | (with_reducible assumption) | assumption)
                    have hx38 := bt_at a0 x3_1
                    replace p38 := eq_true p38
                    replace q38 := eq_true q38
                    try (have q38z := q38; simp only [ByteArray.size_extract, Nat.min_self] at q38z)
                    go_wp2
                    go_ret
                    exact ⟨by first | rfl | (simp; done) | (simp [*]; done) | (simp; generalize ByteArray.toList _ = l_; cases l_ <;> rfl), by repeat (first | exact Drawn0.refl _ | apply Drawn0.step)⟩
        · rw [if_neg c3] at H
          exact absurd H (by simp)
      · rw [if_neg c2] at H
        have c2b0 : decide (x3_1 < (a0.size : Int)) = false := decide_eq_false c2
        clear c2
        obtain rfl := Option.some.inj H
        go_wp2
        go_ret
        exact ⟨by first | rfl | (simp; done) | (simp [*]; done) | (simp; generalize ByteArray.toList _ = l_; cases l_ <;> rfl), by repeat (first | exact Drawn0.refl _ | apply Drawn0.step)⟩
def value_Name.f (a0 : Int) : Option (ByteArray) := if a0 = 1 then (some (⟨#[35, 82, 69, 70, 33]⟩ : ByteArray)) else (if a0 = 2 then (some (⟨#[35, 67, 89, 67, 76, 69, 33]⟩ : ByteArray)) else (if a0 = 3 then (some (⟨#[35, 68, 73, 86, 47, 48, 33]⟩ : ByteArray)) else (if a0 = 4 then (some (⟨#[35, 78, 85, 77, 33]⟩ : ByteArray)) else (if a0 = 5 then (some (⟨#[35, 86, 65, 76, 85, 69, 33]⟩ : ByteArray)) else (if a0 = 6 then (some (⟨#[35, 78, 65, 77, 69, 63]⟩ : ByteArray)) else (if a0 = 7 then (some (⟨#[35, 78, 47, 65]⟩ : ByteArray)) else (some (⟨#[]⟩ : ByteArray))))))))
set_option maxHeartbeats 8000000 in
set_option maxRecDepth 100000 in
theorem value_Name.calls (a0 : Int) (r : ByteArray) (w : World) (h : value_Name.f a0 = some r) :
    Calls Tryd.prog 43 #[.int .i64 a0] w fun e w' => e = .returned (.string r) ∧ Drawn0 w w' := by
  have H : (if a0 = 1 then (some (⟨#[35, 82, 69, 70, 33]⟩ : ByteArray)) else (if a0 = 2 then (some (⟨#[35, 67, 89, 67, 76, 69, 33]⟩ : ByteArray)) else (if a0 = 3 then (some (⟨#[35, 68, 73, 86, 47, 48, 33]⟩ : ByteArray)) else (if a0 = 4 then (some (⟨#[35, 78, 85, 77, 33]⟩ : ByteArray)) else (if a0 = 5 then (some (⟨#[35, 86, 65, 76, 85, 69, 33]⟩ : ByteArray)) else (if a0 = 6 then (some (⟨#[35, 78, 65, 77, 69, 63]⟩ : ByteArray)) else (if a0 = 7 then (some (⟨#[35, 78, 47, 65]⟩ : ByteArray)) else (some (⟨#[]⟩ : ByteArray))))))))) = some r := h
  clear h
  by_cases c2 : a0 = 1
  · rw [if_pos c2] at H
    have c2b0 : (a0 == 1) = true := beq_iff_eq.mpr c2
    have c2b1 : (a0 != 1) = false := bne_eq_false_iff_eq.mpr c2
    clear c2
    obtain rfl := Option.some.inj H
    go_enter Tryd.func43, Tryd.ntmps43
    go_wp2
    go_ret
    exact ⟨by first | rfl | (simp; done) | (simp [*]; done) | (simp; generalize ByteArray.toList _ = l_; cases l_ <;> rfl), by repeat (first | exact Drawn0.refl _ | apply Drawn0.step)⟩
  · rw [if_neg c2] at H
    have c2b0 : (a0 == 1) = false := beq_eq_false_iff_ne.mpr c2
    have c2b1 : (a0 != 1) = true := bne_iff_ne.mpr c2
    by_cases c3 : a0 = 2
    · rw [if_pos c3] at H
      have c3b0 : (a0 == 2) = true := beq_iff_eq.mpr c3
      have c3b1 : (a0 != 2) = false := bne_eq_false_iff_eq.mpr c3
      clear c3
      obtain rfl := Option.some.inj H
      go_enter Tryd.func43, Tryd.ntmps43
      go_wp2
      go_ret
      exact ⟨by first | rfl | (simp; done) | (simp [*]; done) | (simp; generalize ByteArray.toList _ = l_; cases l_ <;> rfl), by repeat (first | exact Drawn0.refl _ | apply Drawn0.step)⟩
    · rw [if_neg c3] at H
      have c3b0 : (a0 == 2) = false := beq_eq_false_iff_ne.mpr c3
      have c3b1 : (a0 != 2) = true := bne_iff_ne.mpr c3
      by_cases c4 : a0 = 3
      · rw [if_pos c4] at H
        have c4b0 : (a0 == 3) = true := beq_iff_eq.mpr c4
        have c4b1 : (a0 != 3) = false := bne_eq_false_iff_eq.mpr c4
        clear c4
        obtain rfl := Option.some.inj H
        go_enter Tryd.func43, Tryd.ntmps43
        go_wp2
        go_ret
        exact ⟨by first | rfl | (simp; done) | (simp [*]; done) | (simp; generalize ByteArray.toList _ = l_; cases l_ <;> rfl), by repeat (first | exact Drawn0.refl _ | apply Drawn0.step)⟩
      · rw [if_neg c4] at H
        have c4b0 : (a0 == 3) = false := beq_eq_false_iff_ne.mpr c4
        have c4b1 : (a0 != 3) = true := bne_iff_ne.mpr c4
        by_cases c5 : a0 = 4
        · rw [if_pos c5] at H
          have c5b0 : (a0 == 4) = true := beq_iff_eq.mpr c5
          have c5b1 : (a0 != 4) = false := bne_eq_false_iff_eq.mpr c5
          clear c5
          obtain rfl := Option.some.inj H
          go_enter Tryd.func43, Tryd.ntmps43
          go_wp2
          go_ret
          exact ⟨by first | rfl | (simp; done) | (simp [*]; done) | (simp; generalize ByteArray.toList _ = l_; cases l_ <;> rfl), by repeat (first | exact Drawn0.refl _ | apply Drawn0.step)⟩
        · rw [if_neg c5] at H
          have c5b0 : (a0 == 4) = false := beq_eq_false_iff_ne.mpr c5
          have c5b1 : (a0 != 4) = true := bne_iff_ne.mpr c5
          by_cases c6 : a0 = 5
          · rw [if_pos c6] at H
            have c6b0 : (a0 == 5) = true := beq_iff_eq.mpr c6
            have c6b1 : (a0 != 5) = false := bne_eq_false_iff_eq.mpr c6
            clear c6
            obtain rfl := Option.some.inj H
            go_enter Tryd.func43, Tryd.ntmps43
            go_wp2
            go_ret
            exact ⟨by first | rfl | (simp; done) | (simp [*]; done) | (simp; generalize ByteArray.toList _ = l_; cases l_ <;> rfl), by repeat (first | exact Drawn0.refl _ | apply Drawn0.step)⟩
          · rw [if_neg c6] at H
            have c6b0 : (a0 == 5) = false := beq_eq_false_iff_ne.mpr c6
            have c6b1 : (a0 != 5) = true := bne_iff_ne.mpr c6
            by_cases c7 : a0 = 6
            · rw [if_pos c7] at H
              have c7b0 : (a0 == 6) = true := beq_iff_eq.mpr c7
              have c7b1 : (a0 != 6) = false := bne_eq_false_iff_eq.mpr c7
              clear c7
              obtain rfl := Option.some.inj H
              go_enter Tryd.func43, Tryd.ntmps43
              go_wp2
              go_ret
              exact ⟨by first | rfl | (simp; done) | (simp [*]; done) | (simp; generalize ByteArray.toList _ = l_; cases l_ <;> rfl), by repeat (first | exact Drawn0.refl _ | apply Drawn0.step)⟩
            · rw [if_neg c7] at H
              have c7b0 : (a0 == 6) = false := beq_eq_false_iff_ne.mpr c7
              have c7b1 : (a0 != 6) = true := bne_iff_ne.mpr c7
              by_cases c8 : a0 = 7
              · rw [if_pos c8] at H
                have c8b0 : (a0 == 7) = true := beq_iff_eq.mpr c8
                have c8b1 : (a0 != 7) = false := bne_eq_false_iff_eq.mpr c8
                clear c8
                obtain rfl := Option.some.inj H
                go_enter Tryd.func43, Tryd.ntmps43
                go_wp2
                go_ret
                exact ⟨by first | rfl | (simp; done) | (simp [*]; done) | (simp; generalize ByteArray.toList _ = l_; cases l_ <;> rfl), by repeat (first | exact Drawn0.refl _ | apply Drawn0.step)⟩
              · rw [if_neg c8] at H
                have c8b0 : (a0 == 7) = false := beq_eq_false_iff_ne.mpr c8
                have c8b1 : (a0 != 7) = true := bne_iff_ne.mpr c8
                obtain rfl := Option.some.inj H
                go_enter Tryd.func43, Tryd.ntmps43
                go_wp2
                go_ret
                exact ⟨by first | rfl | (simp; done) | (simp [*]; done) | (simp; generalize ByteArray.toList _ = l_; cases l_ <;> rfl), by repeat (first | exact Drawn0.refl _ | apply Drawn0.step)⟩
end Go.Proofs.YtpabggjnkoehfaaDoor.ELex
end
section
namespace Go.Proofs.YtpabggjnkoehfaaDoor.ELex
open Go.RowKit Go.Proofs.YtpabggjnkoehfaaDoor.ExtL Go.Proofs.YtpabggjnkoehfaaDoorW.PrintWords Go.Proofs.YtpabggjnkoehfaaDoorW.PrintLast Go.Proofs.YtpabggjnkoehfaaDoorW.PrintMore
attribute [local go_sem] max2_int min2_int max_two min_two max_three min_three max_four min_four   
set_option linter.unusedVariables false
set_option linter.unusedSimpArgs false
def stringslite_HasPrefix.f (a0 : ByteArray) (a1 : ByteArray) : Option (Bool) := if (a0.size : Int) ≥ (a1.size : Int) then (if 0 ≤ (a1.size : Int) then (if (a1.size : Int) ≤ (a0.size : Int) then (some ((a0.extract 0 ((a1.size : Int) : Int).toNat).toList == a1.toList)) else (none)) else (none)) else (some false)
set_option maxHeartbeats 8000000 in
set_option maxRecDepth 100000 in
theorem stringslite_HasPrefix.calls (a0 : ByteArray) (a1 : ByteArray) (r : Bool) (w : World) (h : stringslite_HasPrefix.f a0 a1 = some r) :
    Calls Tryd.prog 59 #[.string a0, .string a1] w fun e w' => e = .returned (.bool r) ∧ Drawn0 w w' := by
  have H : (if (a0.size : Int) ≥ (a1.size : Int) then (if 0 ≤ (a1.size : Int) then (if (a1.size : Int) ≤ (a0.size : Int) then (some ((a0.extract 0 ((a1.size : Int) : Int).toNat).toList == a1.toList)) else (none)) else (none)) else (some false)) = some r := h
  clear h
  by_cases c3 : (a0.size : Int) ≥ (a1.size : Int)
  · rw [if_pos c3] at H
    have c3b0 : decide ((a1.size : Int) ≤ (a0.size : Int)) = true := decide_eq_true c3
    have c3b1 : decide (a1.size ≤ a0.size) = true := decide_eq_true (Int.ofNat_le.mp c3)
    clear c3
    by_cases c4 : 0 ≤ (a1.size : Int)
    · rw [if_pos c4] at H
      have c4b0 := eq_true c4
      have c4b1 : decide (0 ≤ (a1.size : Int)) = true := decide_eq_true c4
      clear c4
      by_cases c5 : (a1.size : Int) ≤ (a0.size : Int)
      · rw [if_pos c5] at H
        have c5b0 := eq_true c5
        have c5b1 : decide ((a1.size : Int) ≤ (a0.size : Int)) = true := decide_eq_true c5
        clear c5
        obtain rfl := Option.some.inj H
        go_enter Tryd.func59, Tryd.ntmps59
        go_wp2
        go_ret
        exact ⟨by first | rfl | (simp; done) | (simp [*]; done) | (simp; generalize ByteArray.toList _ = l_; cases l_ <;> rfl), by repeat (first | exact Drawn0.refl _ | apply Drawn0.step)⟩
      · rw [if_neg c5] at H
        exact absurd H (by simp)
    · rw [if_neg c4] at H
      exact absurd H (by simp)
  · rw [if_neg c3] at H
    have c3b0 : decide ((a1.size : Int) ≤ (a0.size : Int)) = false := decide_eq_false c3
    have c3b1 : decide (a1.size ≤ a0.size) = false := decide_eq_false (fun h => c3 (Int.ofNat_le.mpr h))
    clear c3
    obtain rfl := Option.some.inj H
    go_enter Tryd.func59, Tryd.ntmps59
    go_wp2
    go_ret
    exact ⟨by first | rfl | (simp; done) | (simp [*]; done) | (simp; generalize ByteArray.toList _ = l_; cases l_ <;> rfl), by repeat (first | exact Drawn0.refl _ | apply Drawn0.step)⟩
def strings_HasPrefix.f (a0 : ByteArray) (a1 : ByteArray) : Option (Bool) := (stringslite_HasPrefix.f a0 a1).bind fun t103 => (some t103)
set_option maxHeartbeats 8000000 in
set_option maxRecDepth 100000 in
theorem strings_HasPrefix.calls (a0 : ByteArray) (a1 : ByteArray) (r : Bool) (w : World) (h : strings_HasPrefix.f a0 a1 = some r) :
    Calls Tryd.prog 44 #[.string a0, .string a1] w fun e w' => e = .returned (.bool r) ∧ Drawn0 w w' := by
  have H : ((stringslite_HasPrefix.f a0 a1).bind fun t103 => (some t103)) = some r := h
  clear h
  replace H := Option.bind_eq_some_iff.mp H
  obtain ⟨t103, A30, H⟩ := H
  replace H : (some t103) = some r := H
  have A3 := Aside0.mk A30
  clear A30
  obtain rfl := Option.some.inj H
  go_enter Tryd.func44, Tryd.ntmps44
  go_wp2_with (first | ((with_reducible refine gate_callee (f := 59) rfl ?_); refine goesL_ (some 7) rfl rfl Tryd.func59 (by kernel_rfl) rfl #[.string a0, .string a1] rfl (by (try simp only [List.map_toArray, List.map_cons, List.map_nil]); first | done | rfl | (simp only [List.length_drop, List.length_take]; rfl)) ?_; (with_reducible refine (stringslite_HasPrefix.calls a0 a1 t103 _ A3.out).mono ?_); rintro e w' ⟨rfl, ⟨nd, rfl⟩⟩; refine ⟨_, rfl, ?_⟩))
  go_ret
  exact ⟨by first | rfl | (simp; done) | (simp [*]; done) | (simp; generalize ByteArray.toList _ = l_; cases l_ <;> rfl), by repeat (first | exact Drawn0.refl _ | apply Drawn0.step)⟩
mutual
def lex_next.l0 : Nat → ByteArray → Int → Option (Int × ByteArray × Int)
  | 0, _, _ => none
  | k + 1, x0, x9 => if x9 ≤ 7 then ((value_Name.f x9).bind fun t108 => ((strings_HasPrefix.f x0 t108).bind fun t109 => (if t109 = true then (some (5, t108, (t108.size : Int))) else (lex_next.l0 k x0 (wrap64 (x9 + 1)))))) else ((some (([2, 1] : List Int) : List Int)).bind fun y110 => (lex_next.l1 k x0 y110 (y110.length : Int) 0))
def lex_next.l1 : Nat → ByteArray → List Int → Int → Int → Option (Int × ByteArray × Int)
  | 0, _, _, _, _ => none
  | k + 1, x0, x53, x54, x55 => if x55 < x54 then (if 0 ≤ x55 then (if x55 < (x53.length : Int) then (if (x0.size : Int) ≥ (rd x53 x55) then (if 0 ≤ (rd x53 x55) then (if (rd x53 x55) ≤ (x0.size : Int) then (if 1 + (x0.extract 0 ((rd x53 x55) : Int).toNat).size ≤ 9223372036854775807 then (if ((⟨#[32]⟩ : ByteArray) ++ (x0.extract 0 ((rd x53 x55) : Int).toNat)).size + 1 ≤ 9223372036854775807 then ((strings_Contains.f (⟨#[32, 43, 32, 45, 32, 42, 32, 47, 32, 38, 32, 61, 32, 60, 62, 32, 60, 32, 60, 61, 32, 62, 32, 62, 61, 32, 40, 32, 41, 32, 44, 32, 58, 32]⟩ : ByteArray) (((⟨#[32]⟩ : ByteArray) ++ (x0.extract 0 ((rd x53 x55) : Int).toNat)) ++ (⟨#[32]⟩ : ByteArray))).bind fun t114 => (if t114 = true then ((strings_Contains.f (x0.extract 0 ((rd x53 x55) : Int).toNat) (⟨#[32]⟩ : ByteArray)).bind fun t115 => (if t115 = true then (lex_next.l1 k x0 x53 x54 (wrap64 (x55 + 1))) else (some (6, x0.extract 0 ((rd x53 x55) : Int).toNat, rd x53 x55)))) else (lex_next.l1 k x0 x53 x54 (wrap64 (x55 + 1))))) else (none)) else (none)) else (none)) else (none)) else (lex_next.l1 k x0 x53 x54 (wrap64 (x55 + 1)))) else (none)) else (none)) else (some (0, (⟨#[]⟩ : ByteArray), 0))
end
def lex_next.f (k : Nat) (a0 : ByteArray) : Option (Int × ByteArray × Int) := if 0 < (a0.size : Int) then (if (bt a0 0) = 34 then ((lex_quoted.f k a0).bind fun bt104 => (some (2, bt104.1, bt104.2))) else ((lex_run.f k a0).bind fun t106 => (if t106 > 0 then (if 0 ≤ t106 then (if t106 ≤ (a0.size : Int) then ((lex_word.f (a0.extract 0 (t106 : Int).toNat) (a0.extract (t106 : Int).toNat a0.size)).bind fun t107 => (if t107 = 0 then (some (0, (⟨#[]⟩ : ByteArray), 0)) else (some (t107, a0.extract 0 (t106 : Int).toNat, t106)))) else (none)) else (none)) else (lex_next.l0 k a0 1)))) else (none)
def lex_next.T6 : Bool × List (List Nat × List Nat) := (true, [([], []), ([], []), ([0, 1], [0, 1]), ([], []), ([], []), ([3, 4], [3, 4]), ([2, 5], [2, 5]), ([6, 6, 0, 1, 2, 3, 4, 5, 6], [6])])
def lex_next.B6 : List Nat := [0, 0, 3, 0, 0, 24, 63, 127]
theorem lex_next.tab6 : rtab .any (opsOf Tryd.f33 6) = lex_next.T6 := by kernel_rfl
theorem lex_next.bits6 : waitsOk lex_next.T6.2 lex_next.B6 = true := by kernel_rfl
def lex_next.T9 : Bool × List (List Nat × List Nat) := (true, [([], []), ([], []), ([], []), ([1, 2], [1, 2]), ([], []), ([0, 0], [0]), ([3, 5, 0, 1, 2, 3, 5], [3]), ([4, 6, 0, 1, 2, 3, 4, 5, 6], [4])])
def lex_next.B9 : List Nat := [0, 0, 0, 6, 0, 1, 47, 127]
theorem lex_next.tab9 : rtab .any (opsOf Tryd.f33 9) = lex_next.T9 := by kernel_rfl
theorem lex_next.bits9 : waitsOk lex_next.T9.2 lex_next.B9 = true := by kernel_rfl
set_option maxHeartbeats 8000000 in
set_option maxRecDepth 100000 in
theorem lex_next.calls (k : Nat) (a0 : ByteArray) (r1 : Int) (r2 : ByteArray) (r3 : Int) (w : World) (hL : Aside0 (Lq w)) (h : lex_next.f k a0 = some (r1, r2, r3)) :
    Calls Tryd.prog 33 #[.string a0] w fun e w' => e = .returned (.tuple #[.int .i64 r1, .string r2, .int .i64 r3]) ∧ Below w.heap.size w w' := by
  have HB := Aside0.mk (Below.refl w.heap.size w)
  have H : (if 0 < (a0.size : Int) then (if (bt a0 0) = 34 then ((lex_quoted.f k a0).bind fun bt104 => (some (2, bt104.1, bt104.2))) else ((lex_run.f k a0).bind fun t106 => (if t106 > 0 then (if 0 ≤ t106 then (if t106 ≤ (a0.size : Int) then ((lex_word.f (a0.extract 0 (t106 : Int).toNat) (a0.extract (t106 : Int).toNat a0.size)).bind fun t107 => (if t107 = 0 then (some (0, (⟨#[]⟩ : ByteArray), 0)) else (some (t107, a0.extract 0 (t106 : Int).toNat, t106)))) else (none)) else (none)) else (lex_next.l0 k a0 1)))) else (none)) = some (r1, r2, r3) := h
  clear h
  by_cases c2 : 0 < (a0.size : Int)
  · rw [if_pos c2] at H
    have c2b0 : decide (0 < (a0.size : Int)) = true := decide_eq_true c2
    have c2b1 : decide (0 < a0.size) = true := decide_eq_true (by omega)
    clear c2
    by_cases c4 : (bt a0 0) = 34
    · rw [if_pos c4] at H
      have c4b0 : ((bt a0 0) == 34) = true := beq_iff_eq.mpr c4
      have c4b1 : ((bt a0 0) != 34) = false := bne_eq_false_iff_eq.mpr c4
      clear c4
      replace H := Option.bind_eq_some_iff.mp H
      obtain ⟨⟨t104, t105⟩, A50, H⟩ := H
      replace H : (some (2, t104, t105)) = some (r1, r2, r3) := H
      have A5 := Aside0.mk A50
      clear A50
      simp only [Option.some.injEq, Prod.mk.injEq] at H
      obtain ⟨rfl, rfl, rfl⟩ := H
      have p3 : 0 ≤ (0 : Int) := (by omega)
      have q3 : 0 < a0.size := (by have : (0 : Int) < (a0.size : Int) := of_decide_eq_true (by first | (with_reducible assumption) | assumption); omega)
      have hx3 : ∀ h : 0 < a0.size, ((a0[0]'h).toNat : Int) = bt a0 0 := bt_at a0 0
      clear p3
      have qi3 : (0 < (a0.size : Int)) = True := eq_true (of_decide_eq_true (by first | (with_reducible assumption) | assumption))
      replace q3 := eq_true q3
      try (have q3z := q3; simp only [ByteArray.size_extract, Nat.min_self] at q3z)
      go_enter Tryd.func33, Tryd.ntmps33
      go_wp2_with (first | ((with_reducible refine gate_callee (f := 40) rfl ?_); refine goesL_ (some 18) rfl rfl Tryd.func40 (by kernel_rfl) rfl #[.string a0] rfl (by (try simp only [List.map_toArray, List.map_cons, List.map_nil]); first | done | rfl | (simp only [List.length_drop, List.length_take]; rfl)) ?_; (with_reducible refine (lex_quoted.calls (hL := ⟨by first | exact hL.out | (refine hL.out.drawn ?_; (repeat (first | exact Drawn0.refl _ | apply Drawn0.step)); done) | (refine hL.out.below ?_; (repeat (first | (with_reducible first | exact HB.out | apply below_alloc | apply pw_below_drewN | apply below_drew1) | exact HB.out)); done)⟩) k a0 t104 t105 _ A5.out).mono ?_); rintro e w6 ⟨rfl, hb⟩; refine ⟨_, rfl, ?_⟩; have n0_ := Aside0.mk (below_step (by repeat (first | (with_reducible first | exact HB.out | apply below_alloc | apply pw_below_drewN | apply below_drew1) | exact HB.out)) hb); clear HB; have HB := n0_; clear n0_; (try clear hb); (try clear hb2); (try clear hk); (try clear hi)))
      go_ret3
      exact ⟨by first | rfl | (simp [errW_none, errW_some] <;> rfl) | (simp [*, errW_none, errW_some] <;> rfl) | (simp [*, errW_none, errW_some] <;> (generalize ByteArray.toList _ = l_; cases l_ <;> rfl)), by repeat (first | (with_reducible first | exact HB.out | apply below_alloc | apply pw_below_drewN | apply below_drew1) | exact HB.out)⟩
    · rw [if_neg c4] at H
      have c4b0 : ((bt a0 0) == 34) = false := beq_eq_false_iff_ne.mpr c4
      have c4b1 : ((bt a0 0) != 34) = true := bne_iff_ne.mpr c4
      replace H := Option.bind_eq_some_iff.mp H
      obtain ⟨t106, A70, H⟩ := H
      replace H : (if t106 > 0 then (if 0 ≤ t106 then (if t106 ≤ (a0.size : Int) then ((lex_word.f (a0.extract 0 (t106 : Int).toNat) (a0.extract (t106 : Int).toNat a0.size)).bind fun t107 => (if t107 = 0 then (some (0, (⟨#[]⟩ : ByteArray), 0)) else (some (t107, a0.extract 0 (t106 : Int).toNat, t106)))) else (none)) else (none)) else (lex_next.l0 k a0 1)) = some (r1, r2, r3) := H
      have A7 := Aside0.mk A70
      clear A70
      by_cases c8 : t106 > 0
      · rw [if_pos c8] at H
        have c8b0 : decide (0 < t106) = true := decide_eq_true c8
        clear c8
        by_cases c9 : 0 ≤ t106
        · rw [if_pos c9] at H
          have c9b0 := eq_true c9
          have c9b1 : decide (0 ≤ t106) = true := decide_eq_true c9
          clear c9
          by_cases c10 : t106 ≤ (a0.size : Int)
          · rw [if_pos c10] at H
            have c10b0 := eq_true c10
            have c10b1 : decide (t106 ≤ (a0.size : Int)) = true := decide_eq_true c10
            clear c10
            have c11b0 := eq_true (of_decide_eq_true (by first | (with_reducible assumption) | assumption) : 0 ≤ t106)
            have c12b0 := eq_true (of_decide_eq_true (by first | (with_reducible assumption) | assumption) : t106 ≤ (a0.size : Int))
            replace H := Option.bind_eq_some_iff.mp H
            obtain ⟨t107, A130, H⟩ := H
            replace H : (if t107 = 0 then (some (0, (⟨#[]⟩ : ByteArray), 0)) else (some (t107, a0.extract 0 (t106 : Int).toNat, t106))) = some (r1, r2, r3) := H
            have A13 := Aside0.mk A130
            clear A130
            by_cases c14 : t107 = 0
            · rw [if_pos c14] at H
              have c14b0 : (t107 == 0) = true := beq_iff_eq.mpr c14
              have c14b1 : (t107 != 0) = false := bne_eq_false_iff_eq.mpr c14
              clear c14
              simp only [Option.some.injEq, Prod.mk.injEq] at H
              obtain ⟨rfl, rfl, rfl⟩ := H
              have p3 : 0 ≤ (0 : Int) := (by omega)
              have q3 : 0 < a0.size := (by have : (0 : Int) < (a0.size : Int) := of_decide_eq_true (by first | (with_reducible assumption) | assumption); omega)
              have hx3 : ∀ h : 0 < a0.size, ((a0[0]'h).toNat : Int) = bt a0 0 := bt_at a0 0
              clear p3
              have qi3 : (0 < (a0.size : Int)) = True := eq_true (of_decide_eq_true (by first | (with_reducible assumption) | assumption))
              replace q3 := eq_true q3
              try (have q3z := q3; simp only [ByteArray.size_extract, Nat.min_self] at q3z)
              go_enter Tryd.func33, Tryd.ntmps33
              try go_wp2_with (first | ((with_reducible refine gate_callee (f := 41) rfl ?_); refine goesL_ (some 24) rfl rfl Tryd.func41 (by kernel_rfl) rfl #[.string a0] rfl (by (try simp only [List.map_toArray, List.map_cons, List.map_nil]); first | done | rfl | (simp only [List.length_drop, List.length_take]; rfl)) ?_; (with_reducible refine (lex_run.calls k a0 t106 _ A7.out).mono ?_); rintro e w' ⟨rfl, ⟨nd, rfl⟩⟩; refine ⟨_, rfl, ?_⟩))
              have n0_ := Aside0.mk (below_drew1 HB.out)
              clear HB
              have HB := n0_
              clear n0_
              refine start_ (n := 8) (S := fun w' => True) (ds := []) #[false, false, false, false, false, false, false, false] (by kernel_rfl) rfl rfl trivial (fun hHeld => ?_); refine with_tabW lex_next.tab6 lex_next.bits6 (fun HT_ HW_ => ?_)
              generalize w.drew = w15 at HB hHeld ⊢
              refine pure_ (i := 0) (N := some 27) (v := ?_) (a' := ?_) #[true, false, false, false, false, false, false, false] rfl rfl (any_of HT_.out (by kernel_rfl)) (fun _ _ _ h => h) (Or.inl ⟨by rfl, ?_⟩) ?_ ?_
              rotate_left
              · intro w'
                go_simp
                with_reducible rfl
              rotate_left
              · simp only [Act.put, List.setIfInBounds_toArray, List.set_cons_zero, List.set_cons_succ, i64_w, i32_w]
                rfl
              refine pure_ (i := 1) (N := some 28) (v := ?_) (a' := ?_) #[true, true, false, false, false, false, false, false] rfl rfl (any_of HT_.out (by kernel_rfl)) (fun _ _ _ h => h) (Or.inl ⟨by rfl, ?_⟩) ?_ ?_
              rotate_left
              · intro w'
                go_simp
                with_reducible rfl
              rotate_left
              · simp only [Act.put, List.setIfInBounds_toArray, List.set_cons_zero, List.set_cons_succ, i64_w, i32_w]
                rfl
              refine pure_ (i := 2) (N := some 29) (v := ?_) (a' := ?_) #[true, true, true, false, false, false, false, false] rfl rfl (any_of HT_.out (by kernel_rfl)) (fun _ _ _ h => h) (Or.inl ⟨by rfl, ?_⟩) ?_ ?_
              rotate_left
              · intro w'
                go_simp
                with_reducible rfl
              rotate_left
              · simp only [Act.put, List.setIfInBounds_toArray, List.set_cons_zero, List.set_cons_succ, i64_w, i32_w]
                rfl
              refine pure_ (i := 3) (N := some 30) (v := ?_) (a' := ?_) #[true, true, true, true, false, false, false, false] rfl rfl (any_of HT_.out (by kernel_rfl)) (fun _ _ _ h => h) (Or.inl ⟨by rfl, ?_⟩) ?_ ?_
              rotate_left
              · intro w'
                go_simp
                with_reducible rfl
              rotate_left
              · simp only [Act.put, List.setIfInBounds_toArray, List.set_cons_zero, List.set_cons_succ, i64_w, i32_w]
                rfl
              refine pure_ (i := 4) (N := some 31) (v := ?_) (a' := ?_) #[true, true, true, true, true, false, false, false] rfl rfl (any_of HT_.out (by kernel_rfl)) (fun _ _ _ h => h) (Or.inl ⟨by rfl, ?_⟩) ?_ ?_
              rotate_left
              · intro w'
                go_simp
                with_reducible rfl
              rotate_left
              · simp only [Act.put, List.setIfInBounds_toArray, List.set_cons_zero, List.set_cons_succ, i64_w, i32_w]
                rfl
              refine pure_ (i := 5) (N := some 32) (v := ?_) (a' := ?_) #[true, true, true, true, true, true, false, false] rfl rfl (any_of HT_.out (by kernel_rfl)) (fun _ _ _ h => h) (Or.inl ⟨by rfl, ?_⟩) ?_ ?_
              rotate_left
              · intro w'
                go_simp
                with_reducible rfl
              rotate_left
              · simp only [Act.put, List.setIfInBounds_toArray, List.set_cons_zero, List.set_cons_succ, i64_w, i32_w]
                rfl
              refine one_ (i := 6) (N := some 33) #[true, true, true, true, true, true, true, false] rfl rfl (one_of HT_.out (by kernel_rfl)) (by decide) (fun K hK => ?_)
              refine goes_ Tryd.func42 (by kernel_rfl) rfl #[.string (a0.extract 0 (t106 : Int).toNat), .string (a0.extract (t106 : Int).toNat a0.size)] (by rfl) rfl rfl (by (try simp only [List.map_toArray, List.map_cons, List.map_nil]); first | done | rfl | (simp only [List.length_drop, List.length_take]; rfl)) ?_
              with_reducible refine (lex_word.calls (hL := ⟨by first | exact hL.out | (refine hL.out.drawn ?_; (repeat (first | exact Drawn0.refl _ | apply Drawn0.step)); done) | (refine hL.out.below ?_; (repeat (first | (with_reducible first | exact HB.out | apply below_alloc | apply pw_below_drewN | apply below_drew1) | exact HB.out | exact Below.refl _ _)); done)⟩) (a0.extract 0 (t106 : Int).toNat) (a0.extract (t106 : Int).toNat a0.size) t107 _ A13.out).mono ?_
              rintro e w16 ⟨rfl, hb⟩
              refine ⟨_, rfl, ?_⟩
              have n0_ := Aside0.mk (below_step (show Below w.heap.size w _ from by repeat (first | (with_reducible first | apply below_alloc | apply pw_below_drewN | apply below_drew1) | exact Below.refl _ _)) hb)
              clear HB
              have HB := n0_
              clear n0_
              (try clear hb)
              (try clear hb2)
              (try clear hk)
              (try clear hi)
              refine hK.out _ _ trivial (fun hHeld => ?_)
              clear hK K
              refine norm_ (a' := ?_) ?_ ?_
              rotate_left
              · show Act.put _ (some 33) _ = _
                simp only [Act.put, List.setIfInBounds_toArray, List.set_cons_zero, List.set_cons_succ, i64_w, i32_w]
                rfl
              refine pure_ (i := 7) (N := some 8) (v := ?_) (a' := ?_) #[true, true, true, true, true, true, true, true] rfl rfl (any_of HT_.out (by kernel_rfl)) (fun _ _ _ h => h) (Or.inl ⟨by rfl, ?_⟩) ?_ ?_
              rotate_left
              · intro w'
                go_simp
                with_reducible rfl
              rotate_left
              · simp only [Act.put, List.setIfInBounds_toArray, List.set_cons_zero, List.set_cons_succ, i64_w, i32_w]
                rfl
              refine done_ (done_of HT_.out (by kernel_rfl)) ?_
              try go_wp2
              go_ret3
              exact ⟨by first | rfl | (simp [errW_none, errW_some] <;> rfl) | (simp [*, errW_none, errW_some] <;> rfl) | (simp [*, errW_none, errW_some] <;> (generalize ByteArray.toList _ = l_; cases l_ <;> rfl)), by repeat (first | (with_reducible first | exact HB.out | apply below_alloc | apply pw_below_drewN | apply below_drew1) | exact HB.out)⟩
            · rw [if_neg c14] at H
              have c14b0 : (t107 == 0) = false := beq_eq_false_iff_ne.mpr c14
              have c14b1 : (t107 != 0) = true := bne_iff_ne.mpr c14
              have c17b0 := eq_true (of_decide_eq_true (by first | (with_reducible assumption) | assumption) : 0 ≤ t106)
              have c18b0 := eq_true (of_decide_eq_true (by first | (with_reducible assumption) | assumption) : t106 ≤ (a0.size : Int))
              simp only [Option.some.injEq, Prod.mk.injEq] at H
              obtain ⟨rfl, rfl, rfl⟩ := H
              have p3 : 0 ≤ (0 : Int) := (by omega)
              have q3 : 0 < a0.size := (by have : (0 : Int) < (a0.size : Int) := of_decide_eq_true (by first | (with_reducible assumption) | assumption); omega)
              have hx3 : ∀ h : 0 < a0.size, ((a0[0]'h).toNat : Int) = bt a0 0 := bt_at a0 0
              clear p3
              have qi3 : (0 < (a0.size : Int)) = True := eq_true (of_decide_eq_true (by first | (with_reducible assumption) | assumption))
              replace q3 := eq_true q3
              try (have q3z := q3; simp only [ByteArray.size_extract, Nat.min_self] at q3z)
              go_enter Tryd.func33, Tryd.ntmps33
              try go_wp2_with (first | ((with_reducible refine gate_callee (f := 41) rfl ?_); refine goesL_ (some 24) rfl rfl Tryd.func41 (by kernel_rfl) rfl #[.string a0] rfl (by (try simp only [List.map_toArray, List.map_cons, List.map_nil]); first | done | rfl | (simp only [List.length_drop, List.length_take]; rfl)) ?_; (with_reducible refine (lex_run.calls k a0 t106 _ A7.out).mono ?_); rintro e w' ⟨rfl, ⟨nd, rfl⟩⟩; refine ⟨_, rfl, ?_⟩))
              have n0_ := Aside0.mk (below_drew1 HB.out)
              clear HB
              have HB := n0_
              clear n0_
              refine start_ (n := 8) (S := fun w' => True) (ds := []) #[false, false, false, false, false, false, false, false] (by kernel_rfl) rfl rfl trivial (fun hHeld => ?_); refine with_tabW lex_next.tab6 lex_next.bits6 (fun HT_ HW_ => ?_)
              generalize w.drew = w19 at HB hHeld ⊢
              refine pure_ (i := 0) (N := some 27) (v := ?_) (a' := ?_) #[true, false, false, false, false, false, false, false] rfl rfl (any_of HT_.out (by kernel_rfl)) (fun _ _ _ h => h) (Or.inl ⟨by rfl, ?_⟩) ?_ ?_
              rotate_left
              · intro w'
                go_simp
                with_reducible rfl
              rotate_left
              · simp only [Act.put, List.setIfInBounds_toArray, List.set_cons_zero, List.set_cons_succ, i64_w, i32_w]
                rfl
              refine pure_ (i := 1) (N := some 28) (v := ?_) (a' := ?_) #[true, true, false, false, false, false, false, false] rfl rfl (any_of HT_.out (by kernel_rfl)) (fun _ _ _ h => h) (Or.inl ⟨by rfl, ?_⟩) ?_ ?_
              rotate_left
              · intro w'
                go_simp
                with_reducible rfl
              rotate_left
              · simp only [Act.put, List.setIfInBounds_toArray, List.set_cons_zero, List.set_cons_succ, i64_w, i32_w]
                rfl
              refine pure_ (i := 2) (N := some 29) (v := ?_) (a' := ?_) #[true, true, true, false, false, false, false, false] rfl rfl (any_of HT_.out (by kernel_rfl)) (fun _ _ _ h => h) (Or.inl ⟨by rfl, ?_⟩) ?_ ?_
              rotate_left
              · intro w'
                go_simp
                with_reducible rfl
              rotate_left
              · simp only [Act.put, List.setIfInBounds_toArray, List.set_cons_zero, List.set_cons_succ, i64_w, i32_w]
                rfl
              refine pure_ (i := 3) (N := some 30) (v := ?_) (a' := ?_) #[true, true, true, true, false, false, false, false] rfl rfl (any_of HT_.out (by kernel_rfl)) (fun _ _ _ h => h) (Or.inl ⟨by rfl, ?_⟩) ?_ ?_
              rotate_left
              · intro w'
                go_simp
                with_reducible rfl
              rotate_left
              · simp only [Act.put, List.setIfInBounds_toArray, List.set_cons_zero, List.set_cons_succ, i64_w, i32_w]
                rfl
              refine pure_ (i := 4) (N := some 31) (v := ?_) (a' := ?_) #[true, true, true, true, true, false, false, false] rfl rfl (any_of HT_.out (by kernel_rfl)) (fun _ _ _ h => h) (Or.inl ⟨by rfl, ?_⟩) ?_ ?_
              rotate_left
              · intro w'
                go_simp
                with_reducible rfl
              rotate_left
              · simp only [Act.put, List.setIfInBounds_toArray, List.set_cons_zero, List.set_cons_succ, i64_w, i32_w]
                rfl
              refine pure_ (i := 5) (N := some 32) (v := ?_) (a' := ?_) #[true, true, true, true, true, true, false, false] rfl rfl (any_of HT_.out (by kernel_rfl)) (fun _ _ _ h => h) (Or.inl ⟨by rfl, ?_⟩) ?_ ?_
              rotate_left
              · intro w'
                go_simp
                with_reducible rfl
              rotate_left
              · simp only [Act.put, List.setIfInBounds_toArray, List.set_cons_zero, List.set_cons_succ, i64_w, i32_w]
                rfl
              refine one_ (i := 6) (N := some 33) #[true, true, true, true, true, true, true, false] rfl rfl (one_of HT_.out (by kernel_rfl)) (by decide) (fun K hK => ?_)
              refine goes_ Tryd.func42 (by kernel_rfl) rfl #[.string (a0.extract 0 (t106 : Int).toNat), .string (a0.extract (t106 : Int).toNat a0.size)] (by rfl) rfl rfl (by (try simp only [List.map_toArray, List.map_cons, List.map_nil]); first | done | rfl | (simp only [List.length_drop, List.length_take]; rfl)) ?_
              with_reducible refine (lex_word.calls (hL := ⟨by first | exact hL.out | (refine hL.out.drawn ?_; (repeat (first | exact Drawn0.refl _ | apply Drawn0.step)); done) | (refine hL.out.below ?_; (repeat (first | (with_reducible first | exact HB.out | apply below_alloc | apply pw_below_drewN | apply below_drew1) | exact HB.out | exact Below.refl _ _)); done)⟩) (a0.extract 0 (t106 : Int).toNat) (a0.extract (t106 : Int).toNat a0.size) t107 _ A13.out).mono ?_
              rintro e w20 ⟨rfl, hb⟩
              refine ⟨_, rfl, ?_⟩
              have n0_ := Aside0.mk (below_step (show Below w.heap.size w _ from by repeat (first | (with_reducible first | apply below_alloc | apply pw_below_drewN | apply below_drew1) | exact Below.refl _ _)) hb)
              clear HB
              have HB := n0_
              clear n0_
              (try clear hb)
              (try clear hb2)
              (try clear hk)
              (try clear hi)
              refine hK.out _ _ trivial (fun hHeld => ?_)
              clear hK K
              refine norm_ (a' := ?_) ?_ ?_
              rotate_left
              · show Act.put _ (some 33) _ = _
                simp only [Act.put, List.setIfInBounds_toArray, List.set_cons_zero, List.set_cons_succ, i64_w, i32_w]
                rfl
              refine pure_ (i := 7) (N := some 8) (v := ?_) (a' := ?_) #[true, true, true, true, true, true, true, true] rfl rfl (any_of HT_.out (by kernel_rfl)) (fun _ _ _ h => h) (Or.inl ⟨by rfl, ?_⟩) ?_ ?_
              rotate_left
              · intro w'
                go_simp
                with_reducible rfl
              rotate_left
              · simp only [Act.put, List.setIfInBounds_toArray, List.set_cons_zero, List.set_cons_succ, i64_w, i32_w]
                rfl
              refine done_ (done_of HT_.out (by kernel_rfl)) ?_
              try go_wp2
              have n0_ := Aside0.mk (below_drew1 HB.out)
              clear HB
              have HB := n0_
              clear n0_
              refine start_ (n := 8) (S := fun w' => True) (ds := []) #[false, false, false, false, false, false, false, false] (by kernel_rfl) rfl rfl trivial (fun hHeld => ?_); refine with_tabW lex_next.tab9 lex_next.bits9 (fun HT_ HW_ => ?_)
              generalize w20.drew = w21 at HB hHeld ⊢
              refine pure_ (i := 0) (N := some 36) (v := ?_) (a' := ?_) #[true, false, false, false, false, false, false, false] rfl rfl (any_of HT_.out (by kernel_rfl)) (fun _ _ _ h => h) (Or.inl ⟨by rfl, ?_⟩) ?_ ?_
              rotate_left
              · intro w'
                go_simp
                with_reducible rfl
              rotate_left
              · simp only [Act.put, List.setIfInBounds_toArray, List.set_cons_zero, List.set_cons_succ, i64_w, i32_w]
                rfl
              refine pure_ (i := 1) (N := some 37) (v := ?_) (a' := ?_) #[true, true, false, false, false, false, false, false] rfl rfl (any_of HT_.out (by kernel_rfl)) (fun _ _ _ h => h) (Or.inl ⟨by rfl, ?_⟩) ?_ ?_
              rotate_left
              · intro w'
                go_simp
                with_reducible rfl
              rotate_left
              · simp only [Act.put, List.setIfInBounds_toArray, List.set_cons_zero, List.set_cons_succ, i64_w, i32_w]
                rfl
              refine pure_ (i := 2) (N := some 38) (v := ?_) (a' := ?_) #[true, true, true, false, false, false, false, false] rfl rfl (any_of HT_.out (by kernel_rfl)) (fun _ _ _ h => h) (Or.inl ⟨by rfl, ?_⟩) ?_ ?_
              rotate_left
              · intro w'
                go_simp
                with_reducible rfl
              rotate_left
              · simp only [Act.put, List.setIfInBounds_toArray, List.set_cons_zero, List.set_cons_succ, i64_w, i32_w]
                rfl
              refine pure_ (i := 3) (N := some 39) (v := ?_) (a' := ?_) #[true, true, true, true, false, false, false, false] rfl rfl (any_of HT_.out (by kernel_rfl)) (fun _ _ _ h => h) (Or.inl ⟨by rfl, ?_⟩) ?_ ?_
              rotate_left
              · intro w'
                go_simp
                with_reducible rfl
              rotate_left
              · simp only [Act.put, List.setIfInBounds_toArray, List.set_cons_zero, List.set_cons_succ, i64_w, i32_w]
                rfl
              refine pure_ (i := 4) (N := some 40) (v := ?_) (a' := ?_) #[true, true, true, true, true, false, false, false] rfl rfl (any_of HT_.out (by kernel_rfl)) (fun _ _ _ h => h) (Or.inl ⟨by rfl, ?_⟩) ?_ ?_
              rotate_left
              · intro w'
                go_simp
                with_reducible rfl
              rotate_left
              · simp only [Act.put, List.setIfInBounds_toArray, List.set_cons_zero, List.set_cons_succ, i64_w, i32_w]
                rfl
              refine pure_ (i := 5) (N := some 2) (v := ?_) (a' := ?_) #[true, true, true, true, true, true, false, false] rfl rfl (any_of HT_.out (by kernel_rfl)) (fun _ _ _ h => h) (Or.inl ⟨by rfl, ?_⟩) ?_ ?_
              rotate_left
              · intro w'
                go_simp
                with_reducible rfl
              rotate_left
              · simp only [Act.put, List.setIfInBounds_toArray, List.set_cons_zero, List.set_cons_succ, i64_w, i32_w]
                rfl
              refine pure_ (i := 6) (N := some 3) (v := ?_) (a' := ?_) #[true, true, true, true, true, true, true, false] rfl rfl (any_of HT_.out (by kernel_rfl)) (fun _ _ _ h => h) (Or.inl ⟨by rfl, ?_⟩) ?_ ?_
              rotate_left
              · intro w'
                go_simp
                with_reducible rfl
              rotate_left
              · simp only [Act.put, List.setIfInBounds_toArray, List.set_cons_zero, List.set_cons_succ, i64_w, i32_w]
                rfl
              refine pure_ (i := 7) (N := some 4) (v := ?_) (a' := ?_) #[true, true, true, true, true, true, true, true] rfl rfl (any_of HT_.out (by kernel_rfl)) (fun _ _ _ h => h) (Or.inl ⟨by rfl, ?_⟩) ?_ ?_
              rotate_left
              · intro w'
                go_simp
                with_reducible rfl
              rotate_left
              · simp only [Act.put, List.setIfInBounds_toArray, List.set_cons_zero, List.set_cons_succ, i64_w, i32_w]
                rfl
              refine done_ (done_of HT_.out (by kernel_rfl)) ?_
              try go_wp2
              go_ret3
              exact ⟨by first | rfl | (simp [errW_none, errW_some] <;> rfl) | (simp [*, errW_none, errW_some] <;> rfl) | (simp [*, errW_none, errW_some] <;> (generalize ByteArray.toList _ = l_; cases l_ <;> rfl)), by repeat (first | (with_reducible first | exact HB.out | apply below_alloc | apply pw_below_drewN | apply below_drew1) | exact HB.out)⟩
          · rw [if_neg c10] at H
            exact absurd H (by simp)
        · rw [if_neg c9] at H
          exact absurd H (by simp)
      · rw [if_neg c8] at H
        have c8b0 : decide (0 < t106) = false := decide_eq_false c8
        clear c8
        have H' := Aside0.mk H
        clear H
        have p3 : 0 ≤ (0 : Int) := (by omega)
        have q3 : 0 < a0.size := (by have : (0 : Int) < (a0.size : Int) := of_decide_eq_true (by first | (with_reducible assumption) | assumption); omega)
        have hx3 : ∀ h : 0 < a0.size, ((a0[0]'h).toNat : Int) = bt a0 0 := bt_at a0 0
        clear p3
        have qi3 : (0 < (a0.size : Int)) = True := eq_true (of_decide_eq_true (by first | (with_reducible assumption) | assumption))
        replace q3 := eq_true q3
        try (have q3z := q3; simp only [ByteArray.size_extract, Nat.min_self] at q3z)
        go_enter Tryd.func33, Tryd.ntmps33
        go_wp2_with (first | ((with_reducible refine gate_callee (f := 41) rfl ?_); refine goesL_ (some 24) rfl rfl Tryd.func41 (by kernel_rfl) rfl #[.string a0] rfl (by (try simp only [List.map_toArray, List.map_cons, List.map_nil]); first | done | rfl | (simp only [List.length_drop, List.length_take]; rfl)) ?_; (with_reducible refine (lex_run.calls k a0 t106 _ A7.out).mono ?_); rintro e w' ⟨rfl, ⟨nd, rfl⟩⟩; refine ⟨_, rfl, ?_⟩))
        go_loopg [9] k (fun kq v9 w' => ∃ (x9_1 : Int), v9 = .int .i64 x9_1 ∧ Aside0 (lex_next.l0 kq a0 x9_1 = some (r1, r2, r3)) ∧ Aside0 (kq ≤ k) ∧ Aside0 (Below w.heap.size w w'))
        case atStart => exact ⟨(1), (by first | rfl | (simp; done) | (simp [*]; done)), H', ⟨Nat.le_refl _⟩, ⟨by repeat (first | (with_reducible first | exact HB.out | apply below_alloc | apply pw_below_drewN | apply below_drew1) | exact HB.out)⟩⟩
        case round =>
          clear H'
          try clear c1
          try clear c2
          try clear c2b0
          try clear c2b1
          try clear p2
          try clear c3
          try clear p3
          try clear q3
          try clear hx3
          try clear qi3
          try clear c4
          try clear c4b0
          try clear c4b1
          try clear c8
          try clear c8b0
          try clear c9
          try clear c9b0
          try clear c9b1
          try clear c10
          try clear c10b0
          try clear c10b1
          try clear c11
          try clear c11b0
          try clear c12
          try clear c12b0
          try clear c14
          try clear c14b0
          try clear c14b1
          try clear c17
          try clear c17b0
          try clear c18
          try clear c18b0
          try clear p3
          try clear q3
          obtain ⟨x9_1, rfl, HA, HK1, HB⟩ := hrel
          cases gk with
          | zero => exact absurd HA.out (by simp [lex_next.l0])
          | succ k1 =>
            have H := HA.out
            clear HA
            simp only [lex_next.l0] at H
            by_cases c22 : x9_1 ≤ 7
            · rw [if_pos c22] at H
              have c22b0 : decide (x9_1 ≤ 7) = true := decide_eq_true c22
              clear c22
              replace H := Option.bind_eq_some_iff.mp H
              obtain ⟨t108, A230, H⟩ := H
              replace H : ((strings_HasPrefix.f a0 t108).bind fun t109 => (if t109 = true then (some (5, t108, (t108.size : Int))) else (lex_next.l0 k1 a0 (wrap64 (x9_1 + 1))))) = some (r1, r2, r3) := H
              have A23 := Aside0.mk A230
              clear A230
              replace H := Option.bind_eq_some_iff.mp H
              obtain ⟨t109, A240, H⟩ := H
              replace H : (if t109 = true then (some (5, t108, (t108.size : Int))) else (lex_next.l0 k1 a0 (wrap64 (x9_1 + 1)))) = some (r1, r2, r3) := H
              have A24 := Aside0.mk A240
              clear A240
              by_cases c25 : t109 = true
              · subst c25
                have H1 : (some (5, t108, (t108.size : Int))) = some (r1, r2, r3) := by rw [if_pos rfl] at H; exact H
                clear H
                have H := H1
                clear H1
                simp only [Option.some.injEq, Prod.mk.injEq] at H
                obtain ⟨rfl, rfl, rfl⟩ := H
                go_wp2_with (first | ((with_reducible refine gate_callee (f := 43) rfl ?_); refine goesL_ (some 46) rfl rfl Tryd.func43 (by kernel_rfl) rfl #[.int .i64 x9_1] rfl (by (try simp only [List.map_toArray, List.map_cons, List.map_nil]); first | done | rfl | (simp only [List.length_drop, List.length_take]; rfl)) ?_; (with_reducible refine (value_Name.calls x9_1 t108 _ A23.out).mono ?_); rintro e w' ⟨rfl, ⟨nd, rfl⟩⟩; refine ⟨_, rfl, ?_⟩) | ((with_reducible refine gate_callee (f := 44) rfl ?_); refine goesL_ (some 49) rfl rfl Tryd.func44 (by kernel_rfl) rfl #[.string a0, .string t108] rfl (by (try simp only [List.map_toArray, List.map_cons, List.map_nil]); first | done | rfl | (simp only [List.length_drop, List.length_take]; rfl)) ?_; (with_reducible refine (strings_HasPrefix.calls a0 t108 true _ A24.out).mono ?_); rintro e w' ⟨rfl, ⟨nd, rfl⟩⟩; refine ⟨_, rfl, ?_⟩))
                go_ret3
                exact ⟨by first | rfl | (simp [errW_none, errW_some] <;> rfl) | (simp [*, errW_none, errW_some] <;> rfl) | (simp [*, errW_none, errW_some] <;> (generalize ByteArray.toList _ = l_; cases l_ <;> rfl)), by repeat (first | (with_reducible first | exact HB.out | apply below_alloc | apply pw_below_drewN | apply below_drew1) | exact HB.out)⟩
              · replace c25 := Bool.eq_false_iff.mpr c25
                subst c25
                have H1 : (lex_next.l0 k1 a0 (wrap64 (x9_1 + 1))) = some (r1, r2, r3) := by rw [if_neg (show ¬ (false = true) by decide)] at H; exact H
                clear H
                have H := H1
                clear H1
                have H' := Aside0.mk H
                clear H
                go_wp2_with (first | ((with_reducible refine gate_callee (f := 43) rfl ?_); refine goesL_ (some 46) rfl rfl Tryd.func43 (by kernel_rfl) rfl #[.int .i64 x9_1] rfl (by (try simp only [List.map_toArray, List.map_cons, List.map_nil]); first | done | rfl | (simp only [List.length_drop, List.length_take]; rfl)) ?_; (with_reducible refine (value_Name.calls x9_1 t108 _ A23.out).mono ?_); rintro e w' ⟨rfl, ⟨nd, rfl⟩⟩; refine ⟨_, rfl, ?_⟩) | ((with_reducible refine gate_callee (f := 44) rfl ?_); refine goesL_ (some 49) rfl rfl Tryd.func44 (by kernel_rfl) rfl #[.string a0, .string t108] rfl (by (try simp only [List.map_toArray, List.map_cons, List.map_nil]); first | done | rfl | (simp only [List.length_drop, List.length_take]; rfl)) ?_; (with_reducible refine (strings_HasPrefix.calls a0 t108 false _ A24.out).mono ?_); rintro e w' ⟨rfl, ⟨nd, rfl⟩⟩; refine ⟨_, rfl, ?_⟩))
                go_roundg k1
                case measure => have := HK1.out; omega
                case rel => exact ⟨(wrap64 (x9_1 + 1)), (by first | rfl | (simp; done) | (simp [*]; done)), H', ⟨by have := HK1.out; omega⟩, ⟨by repeat (first | (with_reducible first | exact HB.out | apply below_alloc | apply pw_below_drewN | apply below_drew1) | exact HB.out)⟩⟩
            · rw [if_neg c22] at H
              have c22b0 : decide (x9_1 ≤ 7) = false := decide_eq_false c22
              clear c22
              obtain ⟨y110, hy110⟩ : ∃ y_ : List Int, y_ = (([2, 1] : List Int)) := ⟨_, rfl⟩
              replace H : (lex_next.l1 k1 a0 y110 (y110.length : Int) 0) = some (r1, r2, r3) := by first | (rw [hy110]; with_reducible exact H) | (have H2_ := (Option.bind_some _ _).symm.trans H; rw [hy110]; with_reducible exact H2_) | (have H2_ := (Option.bind_some _ _).symm.trans H; with_reducible exact H2_) | with_reducible exact H | (rw [hy110]; exact H) | exact H
              have Ny110 := Aside0.mk hy110
              clear hy110
              have H' := Aside0.mk H
              clear H
              go_wp2_with (first | ((with_reducible refine gate_dst (N := 53) rfl ?_); refine Kd.R_lit (Kd.int .i64) _ 3 ?hg (N := 53) ?hd (xs := ([2, 1] : List Int)) (inner := [.int .i64 2, .int .i64 1]) (ok := fun _ => True) (okp := fun _ => True) ?hr ?hp (fun _ hk => hk) trivial (Below.refl _ _) (Nat.le_refl _) (by simp) ?_; (case hd => rfl); (case hg => rfl); (case hr => first | (go_simp; done) | (go_simp; rfl)); (case hp => exact (Reps.one (show Kd.M (Kd.int .i64) _ _ _ 2 [.int .i64 2] from rfl) (Reps.one (show Kd.M (Kd.int .i64) _ _ _ 1 [.int .i64 1] from rfl) (Reps.none _ _)))); intro v111 w26 ho27 hb hg_ hnew_; clear hg_ hnew_; (first | rw [← Ny110.out] at ho27 | (simp only [Int.reduceToNat] at ho27; rw [← Ny110.out] at ho27)); have n0_ := Aside0.mk (Kd.R_lower ho27 (below_size (by repeat (first | (with_reducible first | exact HB.out | apply below_alloc | apply pw_below_drewN | apply below_drew1) | exact HB.out)))); have n1_ := Aside0.mk (below_step (by repeat (first | (with_reducible first | exact HB.out | apply below_alloc | apply pw_below_drewN | apply below_drew1) | exact HB.out)) hb); clear HB; have HO112 := n0_; have HB := n1_; clear n0_ n1_; clear hb ho27; obtain ⟨Ao28, co28, eo28⟩ := Kd.R_slice HO112.out; subst eo28))
              go_loopg [55] k1 (fun kq v55 w' => ∃ (x55_2 : Int), v55 = .int .i64 x55_2 ∧ Aside0 (lex_next.l1 kq a0 y110 (y110.length : Int) x55_2 = some (r1, r2, r3)) ∧ Aside0 (kq ≤ k1) ∧ Aside0 (Kd.R (Kd.int .i64) 3 w' w.heap.size (fun _ => True) (.slice Ao28 y110.length co28) y110) ∧ Aside0 (Below w.heap.size w w'))
              case atStart => exact ⟨(0), (by first | rfl | (simp; done) | (simp [*]; done)), H', ⟨Nat.le_refl _⟩, ⟨by (with_reducible repeat (first | apply Kd.R_alloc | apply Kd.R_drewN | apply Kd.R_drew)); exact HO112.out⟩, ⟨by repeat (first | (with_reducible first | exact HB.out | apply below_alloc | apply pw_below_drewN | apply below_drew1) | exact HB.out)⟩⟩
              case round =>
                clear H'
                try clear c1
                try clear c2
                try clear c2b0
                try clear c2b1
                try clear p2
                try clear c3
                try clear p3
                try clear q3
                try clear hx3
                try clear qi3
                try clear c4
                try clear c4b0
                try clear c4b1
                try clear p6
                try clear c8
                try clear c8b0
                try clear c9
                try clear c9b0
                try clear c9b1
                try clear c10
                try clear c10b0
                try clear c10b1
                try clear c11
                try clear c11b0
                try clear c12
                try clear c12b0
                try clear c14
                try clear c14b0
                try clear c14b1
                try clear c17
                try clear c17b0
                try clear c18
                try clear c18b0
                try clear c22
                try clear c22b0
                try clear c25
                try clear p2
                try clear p3
                try clear q3
                obtain ⟨x55_2, rfl, HA, HK2, HO_53, HB⟩ := hrel
                cases gk with
                | zero => exact absurd HA.out (by simp [lex_next.l1])
                | succ k2 =>
                  have H := HA.out
                  clear HA
                  simp only [lex_next.l1] at H
                  by_cases c29 : x55_2 < (y110.length : Int)
                  · rw [if_pos c29] at H
                    have c29b0 : decide (x55_2 < (y110.length : Int)) = true := decide_eq_true c29
                    clear c29
                    by_cases c30 : 0 ≤ x55_2
                    · rw [if_pos c30] at H
                      have c30b0 : decide (0 ≤ x55_2) = true := decide_eq_true c30
                      clear c30
                      by_cases c31 : x55_2 < (y110.length : Int)
                      · rw [if_pos c31] at H
                        have c31b0 : decide (x55_2 < (y110.length : Int)) = true := decide_eq_true c31
                        clear c31
                        by_cases c32 : (a0.size : Int) ≥ (rd y110 x55_2)
                        · rw [if_pos c32] at H
                          have c32b0 : decide ((rd y110 x55_2) ≤ (a0.size : Int)) = true := decide_eq_true c32
                          clear c32
                          by_cases c33 : 0 ≤ (rd y110 x55_2)
                          · rw [if_pos c33] at H
                            have c33b0 := eq_true c33
                            have c33b1 : decide (0 ≤ (rd y110 x55_2)) = true := decide_eq_true c33
                            clear c33
                            by_cases c34 : (rd y110 x55_2) ≤ (a0.size : Int)
                            · rw [if_pos c34] at H
                              have c34b0 := eq_true c34
                              have c34b1 : decide ((rd y110 x55_2) ≤ (a0.size : Int)) = true := decide_eq_true c34
                              clear c34
                              by_cases c35 : 1 + (a0.extract 0 ((rd y110 x55_2) : Int).toNat).size ≤ 9223372036854775807
                              · rw [if_pos c35] at H
                                have c35b0 := eq_true c35
                                have c35b1 : decide (1 + (a0.extract 0 ((rd y110 x55_2) : Int).toNat).size ≤ 9223372036854775807) = true := decide_eq_true c35
                                try (have c35b1z := c35b1; simp only [ByteArray.size_extract, Nat.min_self] at c35b1z)
                                try (have c35b1y := eq_true (of_decide_eq_true c35b1); simp only [ByteArray.size_extract, Nat.min_self] at c35b1y)
                                try have c35b2 : (9223372036854775807 < 1 + (a0.extract 0 ((rd y110 x55_2) : Int).toNat).size) = False := eq_false (Nat.not_lt.2 c35)
                                by_cases c36 : ((⟨#[32]⟩ : ByteArray) ++ (a0.extract 0 ((rd y110 x55_2) : Int).toNat)).size + 1 ≤ 9223372036854775807
                                · rw [if_pos c36] at H
                                  have c36b0 := eq_true c36
                                  have c36b1 : decide (((⟨#[32]⟩ : ByteArray) ++ (a0.extract 0 ((rd y110 x55_2) : Int).toNat)).size + 1 ≤ 9223372036854775807) = true := decide_eq_true c36
                                  try (have c36b1z := c36b1; simp only [ByteArray.size_extract, Nat.min_self] at c36b1z)
                                  try (have c36b1y := eq_true (of_decide_eq_true c36b1); simp only [ByteArray.size_extract, Nat.min_self] at c36b1y)
                                  try have c36b2 : (9223372036854775807 < ((⟨#[32]⟩ : ByteArray) ++ (a0.extract 0 ((rd y110 x55_2) : Int).toNat)).size + 1) = False := eq_false (Nat.not_lt.2 c36)
                                  try (have c36b3 := c36b2; simp only [ByteArray.size_append] at c36b3)
                                  try (have c36b4 := c36b3; simp only [show (⟨#[32]⟩ : ByteArray).size = 1 from rfl] at c36b4)
                                  have hz34 := of_eq_true c34b0
                                  have zq1 : (9223372036854775807 < 1 + (rd y110 x55_2).toNat) = False := eq_false (by have h2 := c35; rw [ByteArray.size_extract] at h2; omega)
                                  have zq2 : (9223372036854775807 < 1 + (rd y110 x55_2).toNat + 1) = False := eq_false (by have h2 := c36; rw [ByteArray.size_append, ByteArray.size_extract, show (⟨#[32]⟩ : ByteArray).size = 1 from rfl] at h2; omega)
                                  clear hz34
                                  replace H := Option.bind_eq_some_iff.mp H
                                  obtain ⟨t114, A370, H⟩ := H
                                  replace H : (if t114 = true then ((strings_Contains.f (a0.extract 0 ((rd y110 x55_2) : Int).toNat) (⟨#[32]⟩ : ByteArray)).bind fun t115 => (if t115 = true then (lex_next.l1 k2 a0 y110 (y110.length : Int) (wrap64 (x55_2 + 1))) else (some (6, a0.extract 0 ((rd y110 x55_2) : Int).toNat, rd y110 x55_2)))) else (lex_next.l1 k2 a0 y110 (y110.length : Int) (wrap64 (x55_2 + 1)))) = some (r1, r2, r3) := H
                                  have A37 := Aside0.mk A370
                                  clear A370
                                  by_cases c38 : t114 = true
                                  · subst c38
                                    have H1 : ((strings_Contains.f (a0.extract 0 ((rd y110 x55_2) : Int).toNat) (⟨#[32]⟩ : ByteArray)).bind fun t115 => (if t115 = true then (lex_next.l1 k2 a0 y110 (y110.length : Int) (wrap64 (x55_2 + 1))) else (some (6, a0.extract 0 ((rd y110 x55_2) : Int).toNat, rd y110 x55_2)))) = some (r1, r2, r3) := by rw [if_pos rfl] at H; exact H
                                    clear H
                                    have H := H1
                                    clear H1
                                    have c39b0 := eq_true (of_decide_eq_true (by first | (with_reducible assumption) | assumption) : 0 ≤ (rd y110 x55_2))
                                    have c40b0 := eq_true (of_decide_eq_true (by first | (with_reducible assumption) | assumption) : (rd y110 x55_2) ≤ (a0.size : Int))
                                    replace H := Option.bind_eq_some_iff.mp H
                                    obtain ⟨t115, A410, H⟩ := H
                                    replace H : (if t115 = true then (lex_next.l1 k2 a0 y110 (y110.length : Int) (wrap64 (x55_2 + 1))) else (some (6, a0.extract 0 ((rd y110 x55_2) : Int).toNat, rd y110 x55_2))) = some (r1, r2, r3) := H
                                    have A41 := Aside0.mk A410
                                    clear A410
                                    by_cases c42 : t115 = true
                                    · subst c42
                                      have H1 : (lex_next.l1 k2 a0 y110 (y110.length : Int) (wrap64 (x55_2 + 1))) = some (r1, r2, r3) := by rw [if_pos rfl] at H; exact H
                                      clear H
                                      have H := H1
                                      clear H1
                                      have H' := Aside0.mk H
                                      clear H
                                      have p113 : 0 ≤ (x55_2 : Int) := of_decide_eq_true (by first | (with_reducible assumption) | assumption)
                                      have q113 : x55_2 < (y110.length : Int) := of_decide_eq_true (by first | (with_reducible assumption) | assumption)
                                      obtain ⟨ad113, e113, hx113_0⟩ := Kd.at_int (Kd.R_reads' HO_53.out).2.2 x55_2 p113 q113
                                      cases e113
                                      replace p113 := eq_true p113
                                      replace q113 := eq_true q113
                                      try (have q113z := q113; simp only [ByteArray.size_extract, Nat.min_self] at q113z)
                                      go_wp2_with (first | (go_at_call 45; (with_reducible refine (strings_Contains.calls (hL := ⟨by first | exact hL.out | (refine hL.out.drawn ?_; (repeat (first | exact Drawn0.refl _ | apply Drawn0.step)); done) | (refine hL.out.below ?_; (repeat (first | (with_reducible first | exact HB.out | apply below_alloc | apply pw_below_drewN | apply below_drew1) | exact HB.out)); done)⟩) (⟨#[32, 43, 32, 45, 32, 42, 32, 47, 32, 38, 32, 61, 32, 60, 62, 32, 60, 32, 60, 61, 32, 62, 32, 62, 61, 32, 40, 32, 41, 32, 44, 32, 58, 32]⟩ : ByteArray) (((⟨#[32]⟩ : ByteArray) ++ (a0.extract 0 ((rd y110 x55_2) : Int).toNat)) ++ (⟨#[32]⟩ : ByteArray)) true _ A37.out).mono ?_); rintro e w' ⟨rfl, ⟨nd, rfl⟩⟩) | (go_at_call 45; (with_reducible refine (strings_Contains.calls (hL := ⟨by first | exact hL.out | (refine hL.out.drawn ?_; (repeat (first | exact Drawn0.refl _ | apply Drawn0.step)); done) | (refine hL.out.below ?_; (repeat (first | (with_reducible first | exact HB.out | apply below_alloc | apply pw_below_drewN | apply below_drew1) | exact HB.out)); done)⟩) (a0.extract 0 ((rd y110 x55_2) : Int).toNat) (⟨#[32]⟩ : ByteArray) true _ A41.out).mono ?_); rintro e w' ⟨rfl, ⟨nd, rfl⟩⟩))
                                      go_roundg k2
                                      case measure => have := HK1.out; have := HK2.out; omega
                                      case rel => exact ⟨(wrap64 (x55_2 + 1)), (by first | rfl | (simp; done) | (simp [*]; done)), H', ⟨by have := HK1.out; have := HK2.out; omega⟩, ⟨by (with_reducible repeat (first | apply Kd.R_alloc | apply Kd.R_drewN | apply Kd.R_drew)); exact HO_53.out⟩, ⟨by repeat (first | (with_reducible first | exact HB.out | apply below_alloc | apply pw_below_drewN | apply below_drew1) | exact HB.out)⟩⟩
                                    · replace c42 := Bool.eq_false_iff.mpr c42
                                      subst c42
                                      have H1 : (some (6, a0.extract 0 ((rd y110 x55_2) : Int).toNat, rd y110 x55_2)) = some (r1, r2, r3) := by rw [if_neg (show ¬ (false = true) by decide)] at H; exact H
                                      clear H
                                      have H := H1
                                      clear H1
                                      have c43b0 := eq_true (of_decide_eq_true (by first | (with_reducible assumption) | assumption) : 0 ≤ (rd y110 x55_2))
                                      have c44b0 := eq_true (of_decide_eq_true (by first | (with_reducible assumption) | assumption) : (rd y110 x55_2) ≤ (a0.size : Int))
                                      simp only [Option.some.injEq, Prod.mk.injEq] at H
                                      obtain ⟨rfl, rfl, rfl⟩ := H
                                      have p113 : 0 ≤ (x55_2 : Int) := of_decide_eq_true (by first | (with_reducible assumption) | assumption)
                                      have q113 : x55_2 < (y110.length : Int) := of_decide_eq_true (by first | (with_reducible assumption) | assumption)
                                      obtain ⟨ad113, e113, hx113_0⟩ := Kd.at_int (Kd.R_reads' HO_53.out).2.2 x55_2 p113 q113
                                      cases e113
                                      replace p113 := eq_true p113
                                      replace q113 := eq_true q113
                                      try (have q113z := q113; simp only [ByteArray.size_extract, Nat.min_self] at q113z)
                                      try go_wp2_with (first | (go_at_call 45; (with_reducible refine (strings_Contains.calls (hL := ⟨by first | exact hL.out | (refine hL.out.drawn ?_; (repeat (first | exact Drawn0.refl _ | apply Drawn0.step)); done) | (refine hL.out.below ?_; (repeat (first | (with_reducible first | exact HB.out | apply below_alloc | apply pw_below_drewN | apply below_drew1) | exact HB.out)); done)⟩) (⟨#[32, 43, 32, 45, 32, 42, 32, 47, 32, 38, 32, 61, 32, 60, 62, 32, 60, 32, 60, 61, 32, 62, 32, 62, 61, 32, 40, 32, 41, 32, 44, 32, 58, 32]⟩ : ByteArray) (((⟨#[32]⟩ : ByteArray) ++ (a0.extract 0 ((rd y110 x55_2) : Int).toNat)) ++ (⟨#[32]⟩ : ByteArray)) true _ A37.out).mono ?_); rintro e w' ⟨rfl, ⟨nd, rfl⟩⟩) | (go_at_call 45; (with_reducible refine (strings_Contains.calls (hL := ⟨by first | exact hL.out | (refine hL.out.drawn ?_; (repeat (first | exact Drawn0.refl _ | apply Drawn0.step)); done) | (refine hL.out.below ?_; (repeat (first | (with_reducible first | exact HB.out | apply below_alloc | apply pw_below_drewN | apply below_drew1) | exact HB.out)); done)⟩) (a0.extract 0 ((rd y110 x55_2) : Int).toNat) (⟨#[32]⟩ : ByteArray) false _ A41.out).mono ?_); rintro e w' ⟨rfl, ⟨nd, rfl⟩⟩))
                                      (try (rw [drewN_self wr]; generalize hq_ : World.drewN wr _ = wr; have n0_ : Aside0 (Kd.R (Kd.int .i64) 3 wr w.heap.size (fun _ => True) (.slice (some ad113) y110.length co28) y110) := ⟨by rw [← hq_]; exact (by (with_reducible repeat (first | apply Kd.R_alloc | apply Kd.R_drewN | apply Kd.R_drew)); exact HO_53.out)⟩; have n1_ : Aside0 (Below w.heap.size w wr) := ⟨by rw [← hq_]; exact (by repeat (first | (with_reducible first | exact HB.out | apply below_alloc | apply pw_below_drewN | apply below_drew1) | exact HB.out))⟩; clear HO_53 HB hq_; have HO_53 := n0_; have HB := n1_; clear n0_ n1_))
                                      have n0_ := Aside0.mk (Kd.R_drew HO_53.out)
                                      have n1_ := Aside0.mk (below_drew1 HB.out)
                                      clear HO_53
                                      clear HB
                                      have HO_53 := n0_
                                      have HB := n1_
                                      clear n0_ n1_
                                      refine start_ (n := 7) (S := fun w' => True) (ds := []) #[false, false, false, false, false, false, false] (by kernel_rfl) rfl rfl trivial (fun hHeld => ?_)
                                      generalize wr.drew = w45 at HO_53 HB hHeld ⊢
                                      refine pure_ (i := 0) (N := some 78) (v := ?_) (a' := ?_) #[true, false, false, false, false, false, false] rfl rfl (by kernel_rfl) (fun _ _ _ h => h) (Or.inl ⟨by rfl, ?_⟩) ?_ ?_
                                      rotate_left
                                      · intro w'
                                        go_simp
                                        with_reducible rfl
                                      rotate_left
                                      · simp only [Act.put, List.setIfInBounds_toArray, List.set_cons_zero, List.set_cons_succ, i64_w, i32_w]
                                        rfl
                                      refine pure_ (i := 1) (N := some 79) (v := ?_) (a' := ?_) #[true, true, false, false, false, false, false] rfl rfl (by kernel_rfl) (fun _ _ _ h => h) (Or.inl ⟨by rfl, ?_⟩) ?_ ?_
                                      rotate_left
                                      · intro w'
                                        go_simp
                                        with_reducible rfl
                                      rotate_left
                                      · simp only [Act.put, List.setIfInBounds_toArray, List.set_cons_zero, List.set_cons_succ, i64_w, i32_w]
                                        rfl
                                      refine pure_ (i := 2) (N := some 80) (v := ?_) (a' := ?_) #[true, true, true, false, false, false, false] rfl rfl (by kernel_rfl) (fun _ _ _ h => h) (Or.inl ⟨by rfl, ?_⟩) ?_ ?_
                                      rotate_left
                                      · intro w'
                                        go_simp
                                        with_reducible rfl
                                      rotate_left
                                      · simp only [Act.put, List.setIfInBounds_toArray, List.set_cons_zero, List.set_cons_succ, i64_w, i32_w]
                                        rfl
                                      refine pure_ (i := 3) (N := some 81) (v := ?_) (a' := ?_) #[true, true, true, true, false, false, false] rfl rfl (by kernel_rfl) (fun _ _ _ h => h) (Or.inl ⟨by rfl, ?_⟩) ?_ ?_
                                      rotate_left
                                      · intro w'
                                        go_simp
                                        with_reducible rfl
                                      rotate_left
                                      · simp only [Act.put, List.setIfInBounds_toArray, List.set_cons_zero, List.set_cons_succ, i64_w, i32_w]
                                        rfl
                                      refine pure_ (i := 4) (N := some 2) (v := ?_) (a' := ?_) #[true, true, true, true, true, false, false] rfl rfl (by kernel_rfl) (fun _ _ _ h => h) (Or.inl ⟨by rfl, ?_⟩) ?_ ?_
                                      rotate_left
                                      · intro w'
                                        go_simp
                                        with_reducible rfl
                                      rotate_left
                                      · simp only [Act.put, List.setIfInBounds_toArray, List.set_cons_zero, List.set_cons_succ, i64_w, i32_w]
                                        rfl
                                      refine pure_ (i := 5) (N := some 3) (v := ?_) (a' := ?_) #[true, true, true, true, true, true, false] rfl rfl (by kernel_rfl) (fun _ _ _ h => h) (Or.inl ⟨by rfl, ?_⟩) ?_ ?_
                                      rotate_left
                                      · intro w'
                                        go_simp
                                        with_reducible rfl
                                      rotate_left
                                      · simp only [Act.put, List.setIfInBounds_toArray, List.set_cons_zero, List.set_cons_succ, i64_w, i32_w]
                                        rfl
                                      refine pure_ (i := 6) (N := some 4) (v := ?_) (a' := ?_) #[true, true, true, true, true, true, true] rfl rfl (by kernel_rfl) (fun _ _ _ h => h) (Or.inl ⟨by rfl, ?_⟩) ?_ ?_
                                      rotate_left
                                      · intro w'
                                        go_simp
                                        with_reducible rfl
                                      rotate_left
                                      · simp only [Act.put, List.setIfInBounds_toArray, List.set_cons_zero, List.set_cons_succ, i64_w, i32_w]
                                        rfl
                                      refine done_ (by kernel_rfl) ?_
                                      try go_wp2
                                      go_ret3
                                      exact ⟨by first | rfl | (simp [errW_none, errW_some] <;> rfl) | (simp [*, errW_none, errW_some] <;> rfl) | (simp [*, errW_none, errW_some] <;> (generalize ByteArray.toList _ = l_; cases l_ <;> rfl)), by repeat (first | (with_reducible first | exact HB.out | apply below_alloc | apply pw_below_drewN | apply below_drew1) | exact HB.out)⟩
                                  · replace c38 := Bool.eq_false_iff.mpr c38
                                    subst c38
                                    have H1 : (lex_next.l1 k2 a0 y110 (y110.length : Int) (wrap64 (x55_2 + 1))) = some (r1, r2, r3) := by rw [if_neg (show ¬ (false = true) by decide)] at H; exact H
                                    clear H
                                    have H := H1
                                    clear H1
                                    have H' := Aside0.mk H
                                    clear H
                                    have p113 : 0 ≤ (x55_2 : Int) := of_decide_eq_true (by first | (with_reducible assumption) | assumption)
                                    have q113 : x55_2 < (y110.length : Int) := of_decide_eq_true (by first | (with_reducible assumption) | assumption)
                                    obtain ⟨ad113, e113, hx113_0⟩ := Kd.at_int (Kd.R_reads' HO_53.out).2.2 x55_2 p113 q113
                                    cases e113
                                    replace p113 := eq_true p113
                                    replace q113 := eq_true q113
                                    try (have q113z := q113; simp only [ByteArray.size_extract, Nat.min_self] at q113z)
                                    go_wp2_with (first | (go_at_call 45; (with_reducible refine (strings_Contains.calls (hL := ⟨by first | exact hL.out | (refine hL.out.drawn ?_; (repeat (first | exact Drawn0.refl _ | apply Drawn0.step)); done) | (refine hL.out.below ?_; (repeat (first | (with_reducible first | exact HB.out | apply below_alloc | apply pw_below_drewN | apply below_drew1) | exact HB.out)); done)⟩) (⟨#[32, 43, 32, 45, 32, 42, 32, 47, 32, 38, 32, 61, 32, 60, 62, 32, 60, 32, 60, 61, 32, 62, 32, 62, 61, 32, 40, 32, 41, 32, 44, 32, 58, 32]⟩ : ByteArray) (((⟨#[32]⟩ : ByteArray) ++ (a0.extract 0 ((rd y110 x55_2) : Int).toNat)) ++ (⟨#[32]⟩ : ByteArray)) false _ A37.out).mono ?_); rintro e w' ⟨rfl, ⟨nd, rfl⟩⟩))
                                    go_roundg k2
                                    case measure => have := HK1.out; have := HK2.out; omega
                                    case rel => exact ⟨(wrap64 (x55_2 + 1)), (by first | rfl | (simp; done) | (simp [*]; done)), H', ⟨by have := HK1.out; have := HK2.out; omega⟩, ⟨by (with_reducible repeat (first | apply Kd.R_alloc | apply Kd.R_drewN | apply Kd.R_drew)); exact HO_53.out⟩, ⟨by repeat (first | (with_reducible first | exact HB.out | apply below_alloc | apply pw_below_drewN | apply below_drew1) | exact HB.out)⟩⟩
                                · rw [if_neg c36] at H
                                  exact absurd H (by simp)
                              · rw [if_neg c35] at H
                                exact absurd H (by simp)
                            · rw [if_neg c34] at H
                              exact absurd H (by simp)
                          · rw [if_neg c33] at H
                            exact absurd H (by simp)
                        · rw [if_neg c32] at H
                          have c32b0 : decide ((rd y110 x55_2) ≤ (a0.size : Int)) = false := decide_eq_false c32
                          clear c32
                          have H' := Aside0.mk H
                          clear H
                          have p113 : 0 ≤ (x55_2 : Int) := of_decide_eq_true (by first | (with_reducible assumption) | assumption)
                          have q113 : x55_2 < (y110.length : Int) := of_decide_eq_true (by first | (with_reducible assumption) | assumption)
                          obtain ⟨ad113, e113, hx113_0⟩ := Kd.at_int (Kd.R_reads' HO_53.out).2.2 x55_2 p113 q113
                          cases e113
                          replace p113 := eq_true p113
                          replace q113 := eq_true q113
                          try (have q113z := q113; simp only [ByteArray.size_extract, Nat.min_self] at q113z)
                          go_wp2
                          go_roundg k2
                          case measure => have := HK1.out; have := HK2.out; omega
                          case rel => exact ⟨(wrap64 (x55_2 + 1)), (by first | rfl | (simp; done) | (simp [*]; done)), H', ⟨by have := HK1.out; have := HK2.out; omega⟩, ⟨by (with_reducible repeat (first | apply Kd.R_alloc | apply Kd.R_drewN | apply Kd.R_drew)); exact HO_53.out⟩, ⟨by repeat (first | (with_reducible first | exact HB.out | apply below_alloc | apply pw_below_drewN | apply below_drew1) | exact HB.out)⟩⟩
                      · rw [if_neg c31] at H
                        exact absurd H (by simp)
                    · rw [if_neg c30] at H
                      exact absurd H (by simp)
                  · rw [if_neg c29] at H
                    have c29b0 : decide (x55_2 < (y110.length : Int)) = false := decide_eq_false c29
                    clear c29
                    simp only [Option.some.injEq, Prod.mk.injEq] at H
                    obtain ⟨rfl, rfl, rfl⟩ := H
                    go_wp2
                    go_ret3
                    exact ⟨by first | rfl | (simp [errW_none, errW_some] <;> rfl) | (simp [*, errW_none, errW_some] <;> rfl) | (simp [*, errW_none, errW_some] <;> (generalize ByteArray.toList _ = l_; cases l_ <;> rfl)), by repeat (first | (with_reducible first | exact HB.out | apply below_alloc | apply pw_below_drewN | apply below_drew1) | exact HB.out)⟩
  · rw [if_neg c2] at H
    exact absurd H (by simp)
end Go.Proofs.YtpabggjnkoehfaaDoor.ELex
end
