/- Part 1 of what the claim's proof stands on: contracts of the program's functions, by walks, and plain laws. -/
import Derived.Test.YtpabggjnkoehfaaDoorLb0
import Derived.ArgAppend
import Derived.Below
import Derived.BigCall
import Derived.BigGuard
import Derived.BigQuiet
import Derived.Deep.AppendLies
import Derived.Deep.CutBlock
import Derived.Deep.DeepCutAuto
import Derived.Deep.Draws
import Derived.Deep.LoopGhost
import Derived.Deep.OwnRows
import Derived.Deep.QuietTactic
import Derived.Deep.RegionHeld3
import Derived.Ground.MpProg
import Derived.Ground.Names2Prog
import Derived.KernelRfl
import Derived.LaidMore
import Derived.LaidSub
import Derived.Laws.BitsLemmas
import Derived.Laws.BytesArg
import Derived.Laws.Closers25
import Derived.Laws.Closers25b
import Derived.Laws.Externs
import Derived.Laws.IdiomCopy
import Derived.Laws.MakeOwn
import Derived.Laws.OwnMore
import Derived.Laws.Rows
import Derived.Laws.Slices
import Derived.Laws.Strings3
import Derived.Laws.StructEq
import Derived.Lay
import Derived.Lib.AppendIntMem
import Derived.Lib.AppendStr
import Derived.Lib.AtoiErrMem
import Derived.Lib.Bytealg
import Derived.Lib.ConvBytes
import Derived.Lib.Hide
import Derived.Lib.IndexLaws
import Derived.Lib.IndexMore
import Derived.Lib.ItoaMem
import Derived.Lib.ItoaNum
import Derived.Lib.LaidTab
import Derived.Lib.LaidU8T
import Derived.Lib.ParseIntB
import Derived.Lib.ParseIntBMem
import Derived.Lib.Strings
import Derived.Lib.ValidLaws
import Derived.Lib.Walk
import Derived.MakeChecks
import Derived.Maps.AppendAt
import Derived.OrdersHeld
import Derived.OwnWalk
import Derived.RowKit
import Derived.RowKit3
import Derived.Shelf.Bits.Mul64
import Derived.Shelf.LaysC
import Derived.Shelf.LaysM
import Derived.Shelf.Pu.ErrVarParseUint
import Derived.Shelf.Pu.Lays
import Derived.Shelf.Pu.Lower
import Derived.Shelf.Pu.ParseUintEmpty
import Derived.Shelf.Pu.ParseUintPublic10
import Derived.Shelf.Pu.ToError
import Derived.Shelf.Pu.ToErrorRange
import Derived.Shelf.Small.Strs
import Derived.Shelf.Small.Wraps
import Derived.Shelf.Strconv.Clone
import Derived.Shelf.Strconv.Itoa0
import Derived.Shelf.Strconv.Itoa1
import Derived.Shelf.Strconv.Itoa2
import Derived.Shelf.Strconv.Itoa3
import Derived.Shelf.Strconv.Itoa4
import Derived.Shelf.Strconv.Lower
import Derived.Shelf.Strconv.ParseUint10
import Derived.Shelf.Strconv.ParseUint10Any
import Derived.Shelf.Strconv.ParseUint10At
import Derived.Shelf.Strconv.ParseUint10Empty
import Derived.Shelf.Strconv.ParseUint10b16
import Derived.Shelf.Strconv.ParseUint10b32
import Derived.Shelf.Strconv.ParseUint10b64
import Derived.Shelf.Strconv.ParseUint10b8
import Derived.Shelf.Strconv.ParseUintEmpty
import Derived.Shelf.Strconv.RangeError
import Derived.Shelf.Strconv.SyntaxError
import Derived.Shelf.Strconv.ToError
import Derived.Shelf.Strconv.ToErrorRange
import Derived.Shelf.Strings.Builder1
import Derived.Shelf.Strings.Builder2
import Derived.Shelf.Strings.Builder2Cap
import Derived.Shelf.Strings.BuilderCap
import Derived.Shelf.Strings.BuilderF
import Derived.Shelf.Strings.BuilderK
import Derived.Shelf.Strings.Cut
import Derived.Shelf.Strings.Prefix
import Derived.Shelf.Strings.Repeat
import Derived.Shelf.Strings.Search1
import Derived.Shelf.Strings.Search2
import Derived.Shelf.Strings.Search3
import Derived.Shelf.Strings.Shaped
import Derived.Shelf.Unicode.ValidAny
import Derived.Stop.Joined
import Derived.Stop.LaidErr
import Derived.Tactics
import Derived.Test.YtpabggjnkoehfaaDoorProg
import Derived.Test.YtpabggjnkoehfaaDoorRows
import Derived.WalkKit
import Derived.WalkSmall
import Derived.WideLaws
section
namespace Go.Proofs
open Go.Shelf Go.RowKit
variable {P : Program} {ρ : Ren}
set_option maxHeartbeats 32000000 in
set_option maxRecDepth 100000 in
theorem AnyPu.internal_strconv_ParseUint_10_b62 (L : LaysPu.n16 P ρ) (t : ByteArray) (hne : t.size ≠ 0) (hmax : t.size ≤ 9223372036854775806) (w : World) :
    Calls P (ρ.f 16) #[.string t, .int .i64 10, .int .i64 62] w fun e w' => e = .returned (Lib.uintTupleM (ρ.t 34) 4611686018427387903 (Lib.parseUintM 4611686018427387903 0 t.data.toList)) ∧ w' = Lib.bytesWorld w (ρ.t 5) t := by
  have mixed := L.mixed
  have t9 := L.t9; have a9 := L.a9; have z9 := L.z9; have v9 := L.v9
  have t3 := L.t3; have a3 := L.a3; have z3 := L.z3; have v3 := L.v3
  have t22 := L.t22; have a22 := L.a22; have z22 := L.z22; have v22 := L.v22
  have t24 := L.t24; have a24 := L.a24; have z24 := L.z24; have v24 := L.v24
  have t4 := L.t4; have a4 := L.a4; have z4 := L.z4; have v4 := L.v4
  have t34 := L.t34; have a34 := L.a34; have z34 := L.z34; have v34 := L.v34
  have t5 := L.t5; have a5 := L.a5; have z5 := L.z5; have v5 := L.v5
  have t36 := L.t36; have a36 := L.a36; have z36 := L.z36; have v36 := L.v36
  have t37 := L.t37; have a37 := L.a37; have z37 := L.z37; have v37 := L.v37
  have t0 := L.t0; have a0 := L.a0; have z0 := L.z0; have v0 := L.v0
  have e19 : ∀ args w, (callFunc (ρ.f 19) args).run P w = .ok (.enter (ρ.f 19) args) w := enters_of L.f19 (by kernel_rfl) rfl
  have hemp : t.toList.isEmpty = false := by
    rw [← decide_eq_emptyBytes]
    exact decide_eq_false (fun h => hne (by rw [h]; rfl))
  have hcv := Lib.run_convert_string_bytes (P := P) w (ρ.t 9) (ρ.t 37) (ρ.t 5) t (u := .string) L.t9 L.t37 L.t5
  have hB : ∀ j, j < t.size → (Lib.bytesWorld w (ρ.t 5) t).cell? ⟨w.heap.size, j, none⟩ = some (.int .u8 (t.data.toList.getD j 0).toNat) := fun j hj => Lib.bytesWorld_cell w (ρ.t 5) t j hj
  obtain ⟨W1, hW1⟩ : ∃ W1, W1 = Lib.bytesWorld w (ρ.t 5) t := ⟨_, rfl⟩
  rw [← hW1] at hcv hB ⊢
  clear hW1
  obtain ⟨bs, hL⟩ : ∃ bs, bs = t.data.toList := ⟨_, rfl⟩
  have hLn : bs.length = t.size := by rw [hL, Lib.size_eq]
  rw [← hL] at hB ⊢
  clear hL
  have hmv : IntKind.u64.wrap (IntKind.u64.wrap 4611686018427387904 - 1) = 4611686018427387903 := by
    rw [IntKind.wrap_u64, IntKind.wrap_u64]
    decide
  go_enter L.f16, BodyPu.n16_ntmps ρ
  go_wp2
  go_loop [12, 13, 101] (fun vu vn vi => ∃ (k acc : Nat) (a : Int), vu = .bool false ∧ vn = .int .u64 a ∧ vi = .int .i64 k ∧ k ≤ t.size ∧ Hid (a = (acc : Int) ∧ acc ≤ 4611686018427387903 ∧ Lib.parseUintM 4611686018427387903 0 bs = Lib.parseUintM 4611686018427387903 acc (bs.drop k)))
    (fun _ _ vi => t.size - (intOf vi).toNat)
  case atStart => exact ⟨0, 0, 0, rfl, rfl, rfl, by omega, rfl, by omega, rfl⟩
  case round =>
    obtain ⟨k, acc, a, rfl, rfl, rfl, hk, hh⟩ := hrel
    obtain ⟨ha, hacc, hdec⟩ := hh.out
    clear hh
    have a0 : 0 ≤ a := by omega
    have a1 : a ≤ 4611686018427387903 := by omega
    by_cases hkn : k < t.size
    · have hc := hB k hkn
      have hdrop : bs.drop k = bs[k]'(by omega) :: bs.drop (k + 1) := List.drop_eq_getElem_cons (by omega)
      have hget : bs.getD k 0 = bs[k]'(by omega) := by simp [List.getD, List.getElem?_eq_getElem (show k < bs.length by omega)]
      rw [hdrop] at hdec
      rw [hget] at hc
      generalize bs[k]'(by omega) = c at hc hdec
      have hc256 : c.toNat < 256 := c.toNat_lt
      clear hB hdrop hget
      by_cases hdig : 48 ≤ c.toNat ∧ c.toNat ≤ 57
      · obtain ⟨hd0, hd1⟩ := hdig
        by_cases hcut : 1844674407370955162 ≤ acc
        · have hF : Lib.parseUintM 4611686018427387903 acc (c :: bs.drop (k + 1)) = .range := by simp [Lib.parseUintM, hd0, hd1, hcut]
          rw [hF] at hdec
          have icut : 1844674407370955162 ≤ a := by omega
          clear hcut hacc hF ha
          go_wp2
          go_ret2
          exact ⟨rfl, rfl⟩
        have icut : a < 1844674407370955162 := by omega
        by_cases hov : 4611686018427387903 < acc * 10 + (c.toNat - 48)
        · 
          have hF : Lib.parseUintM 4611686018427387903 acc (c :: bs.drop (k + 1)) = .range := by simp [Lib.parseUintM, hd0, hd1, hcut, hov]
          rw [hF] at hdec
          have iov : 4611686018427387903 < a * 10 + ((c.toNat : Int) - 48) := by omega
          clear hcut hacc hF hov ha
          by_cases hw : 18446744073709551616 ≤ a * 10 + ((c.toNat : Int) - 48)
          · have hwr : IntKind.u64.wrap (a * 10 + ((c.toNat : Int) - 48)) = a * 10 + ((c.toNat : Int) - 48) - 18446744073709551616 := by
              rw [IntKind.wrap_u64]
              omega
            go_wp2
            go_ret2
            exact ⟨rfl, rfl⟩
          · have iw : a * 10 + ((c.toNat : Int) - 48) < 18446744073709551616 := by omega
            clear hw
            go_wp2
            go_ret2
            exact ⟨rfl, rfl⟩
        · have hF : Lib.parseUintM 4611686018427387903 acc (c :: bs.drop (k + 1)) = Lib.parseUintM 4611686018427387903 (acc * 10 + (c.toNat - 48)) (bs.drop (k + 1)) := by simp [Lib.parseUintM, hd0, hd1, hcut, hov]
          have HN : Hid (a * 10 + ((c.toNat : Int) - 48) = ((acc * 10 + (c.toNat - 48) : Nat) : Int) ∧ acc * 10 + (c.toNat - 48) ≤ 4611686018427387903 ∧ Lib.parseUintM 4611686018427387903 0 bs = Lib.parseUintM 4611686018427387903 (acc * 10 + (c.toNat - 48)) (bs.drop (k + 1))) := Lib.hid ⟨by omega, by omega, hdec.trans hF⟩
          have iov : a * 10 + ((c.toNat : Int) - 48) ≤ 4611686018427387903 := by omega
          clear hcut hacc hF hov hdec ha
          go_wp2
          refine ⟨⟨k + 1, acc * 10 + (c.toNat - 48), a * 10 + ((c.toNat : Int) - 48), rfl, (by first | rfl | (congr 1; omega)), (by first | rfl | (congr 1; omega)), by omega, HN⟩, by simp [intOf]; omega⟩
      · 
        have hF : Lib.parseUintM 4611686018427387903 acc (c :: bs.drop (k + 1)) = .syntax := by simp [Lib.parseUintM, hdig]
        rw [hF] at hdec
        clear hacc hF ha
        have hv0 := bits_lo_u8 .or (c.toNat : Int) 32
        have hv1 := bits_hi_u8 .or (c.toNat : Int) 32
        have hu0 := bits_lo_u8 .or 95 32       
        have hu1 := bits_hi_u8 .or 95 32
        go_wp2_with (go_at_fn (ρ.f 19); refine (AnyPu.internal_strconv_lower { L with } _ _).mono ?_; rintro e w' ⟨rfl, rfl⟩)
        all_goals go_ret2
        all_goals first | exact ⟨rfl, rfl⟩ | exact ⟨by rw [hdec]; rfl, rfl⟩
    · 
      have hkk : k = t.size := by omega
      subst hkk
      have hF : Lib.parseUintM 4611686018427387903 acc (bs.drop t.size) = .ok acc := by rw [List.drop_eq_nil_of_le (by omega)]; rfl
      rw [hF] at hdec
      subst ha
      clear hacc hF a0 a1
      go_wp2
      go_ret2
      exact ⟨rfl, rfl⟩
theorem AnyPu.internal_strconv_ParseUint_10_at62 (L : LaysPu.n16 P ρ) (t : ByteArray) (hmax : t.size ≤ 9223372036854775806) (w : World) :
    Calls P (ρ.f 16) #[.string t, .int .i64 10, .int .i64 62] w fun e w' => e = .returned (Lib.uintTupleM (ρ.t 34) 4611686018427387903 (Lib.parseUintB 62 t.data.toList)) ∧ (w' = w ∨ w' = Lib.bytesWorld w (ρ.t 5) t) := by
  have eM : (2 : Nat) ^ 62 - 1 = 4611686018427387903 := by decide
  by_cases h0 : t.size = 0
  · have ht : t = ⟨#[]⟩ := by
      apply ByteArray.ext
      exact Array.eq_empty_of_size_eq_zero h0
    subst ht
    exact (AnyPu.internal_strconv_ParseUint_empty { L with } 10 62 w).mono fun e w' ⟨he, hw⟩ => ⟨he, Or.inl hw⟩
  · have hne : t.data.toList ≠ [] := fun h => h0 (by rw [Lib.size_eq, h]; rfl)
    refine (AnyPu.internal_strconv_ParseUint_10_b62 { L with } t h0 hmax w).mono fun e w' ⟨he, hw⟩ => ⟨?_, Or.inr hw⟩
    rw [he, Lib.parseUintB, if_neg hne, eM]
end Go.Proofs
end
section
namespace Go.Proofs
open Go.Shelf Go.RowKit
variable {P : Program} {ρ : Ren}
set_option maxHeartbeats 4000000 in
set_option maxRecDepth 100000 in
theorem Any.strconv_ParseUint_10_at62_ok (L : LaysPu.n14 P ρ) (s : ByteArray) (hmax : s.size ≤ 9223372036854775806) (u : Nat) (h : Lib.parseUintB 62 s.data.toList = .ok u) (w : World) :
    Calls P (ρ.f 14) #[.string s, .int .i64 10, .int .i64 62] w fun e w' => e = .returned (.tuple #[.int .u64 u, .nilIface]) ∧ (w' = w ∨ w' = Lib.bytesWorld w (ρ.t 5) s) := by
  have mixed := L.mixed
  have t9 := L.t9; have a9 := L.a9; have z9 := L.z9; have v9 := L.v9
  have t3 := L.t3; have a3 := L.a3; have z3 := L.z3; have v3 := L.v3
  have t22 := L.t22; have a22 := L.a22; have z22 := L.z22; have v22 := L.v22
  have t24 := L.t24; have a24 := L.a24; have z24 := L.z24; have v24 := L.v24
  have t25 := L.t25; have a25 := L.a25; have z25 := L.z25; have v25 := L.v25
  have t4 := L.t4; have a4 := L.a4; have z4 := L.z4; have v4 := L.v4
  have e16 : ∀ args w, (callFunc (ρ.f 16) args).run P w = .ok (.enter (ρ.f 16) args) w := enters_of L.f16 (by kernel_rfl) rfl
  have hI := AnyPu.internal_strconv_ParseUint_10_at62 { L with } s hmax w
  rw [h] at hI
  have hI : Calls P (ρ.f 16) #[.string s, .int .i64 10, .int .i64 62] w fun e w' => e = .returned (.tuple #[.int .u64 u, .nilIface]) ∧ (w' = w ∨ w' = Lib.bytesWorld w (ρ.t 5) s) := hI
  clear h
  go_enter L.f14, BodyPu.n14_ntmps ρ
  go_wp2_with (go_at_fn (ρ.f 16); refine hI.mono ?_; rintro e W1 ⟨rfl, hW⟩)
  go_wp2
  go_ret2
  exact ⟨rfl, hW⟩
set_option maxHeartbeats 4000000 in
set_option maxRecDepth 100000 in
theorem Any.strconv_ParseUint_10_at62_syntax (L : LaysPu.n14 P ρ) (s : ByteArray) (hlim : s.size ≤ 281474976710656) (h : Lib.parseUintB 62 s.data.toList = .syntax) (ev : Value) (w : World) (hv : w.cell? ⟨(ρ.g 0), 0, none⟩ = some ev) (hev : ev = .nilIface ∨ ∃ te pe, ev = .iface te pe) :
    Calls P (ρ.f 14) #[.string s, .int .i64 10, .int .i64 62] w fun e w' => ∃ N, e = .returned (.tuple #[.int .u64 0, .iface (ρ.t 39) (.pointer (some ⟨N, 0, none⟩))]) ∧ w.heap.size ≤ N ∧ w'.heap[N]? = some (.cells #[.string ⟨#[80, 97, 114, 115, 101, 85, 105, 110, 116]⟩, .string s, ev] (ρ.t 44) (0, 0)) ∧ Below w.heap.size w w' := by
  have mixed := L.mixed
  have t9 := L.t9; have a9 := L.a9; have z9 := L.z9; have v9 := L.v9
  have t3 := L.t3; have a3 := L.a3; have z3 := L.z3; have v3 := L.v3
  have t22 := L.t22; have a22 := L.a22; have z22 := L.z22; have v22 := L.v22
  have t24 := L.t24; have a24 := L.a24; have z24 := L.z24; have v24 := L.v24
  have t25 := L.t25; have a25 := L.a25; have z25 := L.z25; have v25 := L.v25
  have t4 := L.t4; have a4 := L.a4; have z4 := L.z4; have v4 := L.v4
  have e16 : ∀ args w, (callFunc (ρ.f 16) args).run P w = .ok (.enter (ρ.f 16) args) w := enters_of L.f16 (by kernel_rfl) rfl
  have e17 : ∀ args w, (callFunc (ρ.f 17) args).run P w = .ok (.enter (ρ.f 17) args) w := enters_of L.f17 (by kernel_rfl) rfl
  have hG : (ρ.g 0) < w.heap.size := Lib.lt_of_cell hv
  have hI := AnyPu.internal_strconv_ParseUint_10_at62 { L with } s (by omega) w
  rw [h] at hI
  have hI : Calls P (ρ.f 16) #[.string s, .int .i64 10, .int .i64 62] w fun e w' => e = .returned (.tuple #[.int .u64 0, .iface (ρ.t 34) (.int .i64 2)]) ∧ (w' = w ∨ w' = Lib.bytesWorld w (ρ.t 5) s) := hI
  clear h
  go_enter L.f14, BodyPu.n14_ntmps ρ
  go_wp2_with (go_at_fn (ρ.f 16); refine hI.mono ?_)
  rintro e W1 ⟨rfl, hW⟩
  have hb1 : Below w.heap.size w W1 := by
    rcases hW with rfl | rfl
    · exact Below.refl _ _
    · exact Lib.bytesWorld_below _ _ _
  have hv1 : W1.cell? ⟨(ρ.g 0), 0, none⟩ = some ev := (hb1.cell (show (⟨(ρ.g 0), 0, none⟩ : Addr).block < w.heap.size from hG)).trans hv
  clear hW
  go_wp2_with (go_at_fn (ρ.f 17); refine (AnyPu.strconv_toError_syntax { L with } ⟨#[80, 97, 114, 115, 101, 85, 105, 110, 116]⟩ s 10 62 ev _ hlim ?_ hev).mono ?_)
  · exact hv1
  rintro e W2 ⟨N, rfl, h1, h2, h3⟩
  go_wp2
  go_ret2
  exact ⟨N, rfl, Nat.le_trans hb1.size h1, h2, hb1.trans (h3.mono hb1.size)⟩
set_option maxHeartbeats 4000000 in
set_option maxRecDepth 100000 in
theorem Any.strconv_ParseUint_10_at62_range (L : LaysPu.n14 P ρ) (s : ByteArray) (hlim : s.size ≤ 281474976710656) (h : Lib.parseUintB 62 s.data.toList = .range) (ev : Value) (w : World) (hv : w.cell? ⟨(ρ.g 1), 0, none⟩ = some ev) (hev : ev = .nilIface ∨ ∃ te pe, ev = .iface te pe) :
    Calls P (ρ.f 14) #[.string s, .int .i64 10, .int .i64 62] w fun e w' => ∃ N, e = .returned (.tuple #[.int .u64 4611686018427387903, .iface (ρ.t 39) (.pointer (some ⟨N, 0, none⟩))]) ∧ w.heap.size ≤ N ∧ w'.heap[N]? = some (.cells #[.string ⟨#[80, 97, 114, 115, 101, 85, 105, 110, 116]⟩, .string s, ev] (ρ.t 44) (0, 0)) ∧ Below w.heap.size w w' := by
  have mixed := L.mixed
  have t9 := L.t9; have a9 := L.a9; have z9 := L.z9; have v9 := L.v9
  have t3 := L.t3; have a3 := L.a3; have z3 := L.z3; have v3 := L.v3
  have t22 := L.t22; have a22 := L.a22; have z22 := L.z22; have v22 := L.v22
  have t24 := L.t24; have a24 := L.a24; have z24 := L.z24; have v24 := L.v24
  have t25 := L.t25; have a25 := L.a25; have z25 := L.z25; have v25 := L.v25
  have t4 := L.t4; have a4 := L.a4; have z4 := L.z4; have v4 := L.v4
  have e16 : ∀ args w, (callFunc (ρ.f 16) args).run P w = .ok (.enter (ρ.f 16) args) w := enters_of L.f16 (by kernel_rfl) rfl
  have e17 : ∀ args w, (callFunc (ρ.f 17) args).run P w = .ok (.enter (ρ.f 17) args) w := enters_of L.f17 (by kernel_rfl) rfl
  have hG : (ρ.g 1) < w.heap.size := Lib.lt_of_cell hv
  have hI := AnyPu.internal_strconv_ParseUint_10_at62 { L with } s (by omega) w
  rw [h] at hI
  have hI : Calls P (ρ.f 16) #[.string s, .int .i64 10, .int .i64 62] w fun e w' => e = .returned (.tuple #[.int .u64 4611686018427387903, .iface (ρ.t 34) (.int .i64 1)]) ∧ (w' = w ∨ w' = Lib.bytesWorld w (ρ.t 5) s) := hI
  clear h
  go_enter L.f14, BodyPu.n14_ntmps ρ
  go_wp2_with (go_at_fn (ρ.f 16); refine hI.mono ?_)
  rintro e W1 ⟨rfl, hW⟩
  have hb1 : Below w.heap.size w W1 := by
    rcases hW with rfl | rfl
    · exact Below.refl _ _
    · exact Lib.bytesWorld_below _ _ _
  have hv1 : W1.cell? ⟨(ρ.g 1), 0, none⟩ = some ev := (hb1.cell (show (⟨(ρ.g 1), 0, none⟩ : Addr).block < w.heap.size from hG)).trans hv
  clear hW
  go_wp2_with (go_at_fn (ρ.f 17); refine (AnyPu.strconv_toError_range { L with } ⟨#[80, 97, 114, 115, 101, 85, 105, 110, 116]⟩ s 10 62 ev _ hlim ?_ hev).mono ?_)
  · exact hv1
  rintro e W2 ⟨N, rfl, h1, h2, h3⟩
  go_wp2
  go_ret2
  exact ⟨N, rfl, Nat.le_trans hb1.size h1, h2, hb1.trans (h3.mono hb1.size)⟩
end Go.Proofs
end
section
namespace Go.Proofs
open Go.Shelf
def Tryd.lays137_ren : Go.Shelf.Ren := ⟨fun | 137 => 55 | 217 => 61 | 266 => 80 | n => n, fun | 9 => 9 | 5 => 5 | 3 => 3 | n => n, fun | n => n⟩
theorem Tryd.lays137 : Go.Proofs.Lays.n137 Tryd.prog Tryd.lays137_ren := {
  mixed := by kernel_rfl
  f137 := Tryd.func55.trans (congrArg some (by kernel_rfl))
  f217 := Tryd.func61.trans (congrArg some (by kernel_rfl))
  f266 := Tryd.func80.trans (congrArg some (by kernel_rfl))
  t3 := Tryd.underlying3
  a3 := Tryd.isAgg3
  z3 := Tryd.sizeOf3
  v3 := Tryd.zeroValue3
  t5 := Tryd.underlying5
  a5 := Tryd.isAgg5
  z5 := Tryd.sizeOf5
  v5 := Tryd.zeroValue5
  t9 := Tryd.underlying9
  a9 := Tryd.isAgg9
  z9 := Tryd.sizeOf9
  v9 := Tryd.zeroValue9 }
open Go.RowKit in
theorem Tryd.strings_IndexByte (s : ByteArray) (c : Int) (w : World) :
    Calls Tryd.prog 55 #[.string s, .int .u8 c] w fun e w' => e = .returned (.int .i64 (Lib.indexByte s.data.toList c.toNat.toUInt8)) ∧ w' = w := Any.strings_IndexByte Tryd.lays137 s c w
def Tryd.lays103_ren : Go.Shelf.Ren := ⟨fun | 103 => 35 | 210 => 47 | 206 => 59 | n => n, fun | 9 => 9 | 4 => 4 | 24 => 47 | 3 => 3 | n => n, fun | n => n⟩
theorem Tryd.lays103 : Go.Proofs.Lays.n103 Tryd.prog Tryd.lays103_ren := {
  mixed := by kernel_rfl
  f103 := Tryd.func35.trans (congrArg some (by kernel_rfl))
  f206 := Tryd.func59.trans (congrArg some (by kernel_rfl))
  f210 := Tryd.func47.trans (congrArg some (by kernel_rfl))
  t3 := Tryd.underlying3
  a3 := Tryd.isAgg3
  z3 := Tryd.sizeOf3
  v3 := Tryd.zeroValue3
  t4 := Tryd.underlying4
  a4 := Tryd.isAgg4
  z4 := Tryd.sizeOf4
  v4 := Tryd.zeroValue4
  t9 := Tryd.underlying9
  a9 := Tryd.isAgg9
  z9 := Tryd.sizeOf9
  v9 := Tryd.zeroValue9
  t24 := Tryd.underlying47
  a24 := Tryd.isAgg47
  z24 := Tryd.sizeOf47
  v24 := Tryd.zeroValue47 }
open Go.RowKit in
theorem Tryd.strings_CutPrefix (s p : ByteArray) (w : World) :
    Calls Tryd.prog 35 #[.string s, .string p] w fun e w' => e = .returned (.tuple #[.string ⟨(Lib.trimPrefix s.data.toList p.data.toList).toArray⟩, .bool (Lib.hasPrefix s.data.toList p.data.toList)]) ∧ w' = w := Any.strings_CutPrefix Tryd.lays103 s p w
def Tryd.lays283_ren : Go.Shelf.Ren := ⟨fun | 283 => 51 | n => n, fun | 3 => 3 | 9 => 9 | 4 => 4 | n => n, fun | n => n⟩
theorem Tryd.lays283 : Go.Proofs.Lays.n283 Tryd.prog Tryd.lays283_ren := {
  mixed := by kernel_rfl
  f283 := Tryd.func51.trans (congrArg some (by kernel_rfl))
  t3 := Tryd.underlying3
  a3 := Tryd.isAgg3
  z3 := Tryd.sizeOf3
  v3 := Tryd.zeroValue3
  t4 := Tryd.underlying4
  a4 := Tryd.isAgg4
  z4 := Tryd.sizeOf4
  v4 := Tryd.zeroValue4
  t9 := Tryd.underlying9
  a9 := Tryd.isAgg9
  z9 := Tryd.sizeOf9
  v9 := Tryd.zeroValue9 }
open Go.Lib in
theorem Tryd.internal_strconv_small (i : Nat) (h : i < 100) (w : World) :
    Calls Tryd.prog 51 #[.int .i64 i] w fun e w' => e = .returned (.string ⟨(Lib.decDigits i).toArray⟩) ∧ w' = w := Any.internal_strconv_small Tryd.lays283 i h w
def Tryd.laysM284_ren : Go.Shelf.Ren := ⟨fun | 284 => 52 | 129 => 72 | 317 => 71 | 318 => 73 | n => n, fun | 53 => 57 | 3 => 3 | 212 => 88 | 0 => 0 | 4 => 4 | 46 => 81 | 5 => 5 | 9 => 9 | n => n, fun | 17 => 1 | n => n⟩
theorem Tryd.laysM284 : Go.Proofs.LaysM.n284 Tryd.prog Tryd.laysM284_ren := {
  mixed := by kernel_rfl
  f129 := Tryd.func72.trans (congrArg some (by kernel_rfl))
  f284 := Tryd.func52.trans (congrArg some (by kernel_rfl))
  f317 := Tryd.func71.trans (congrArg some (by kernel_rfl))
  f318 := Tryd.func73.trans (congrArg some (by kernel_rfl))
  t0 := Tryd.underlying0
  a0 := Tryd.isAgg0
  z0 := Tryd.sizeOf0
  v0 := Tryd.zeroValue0
  t3 := Tryd.underlying3
  a3 := Tryd.isAgg3
  z3 := Tryd.sizeOf3
  v3 := Tryd.zeroValue3
  t4 := Tryd.underlying4
  a4 := Tryd.isAgg4
  z4 := Tryd.sizeOf4
  v4 := Tryd.zeroValue4
  t5 := Tryd.underlying5
  a5 := Tryd.isAgg5
  z5 := Tryd.sizeOf5
  v5 := Tryd.zeroValue5
  t9 := Tryd.underlying9
  a9 := Tryd.isAgg9
  z9 := Tryd.sizeOf9
  v9 := Tryd.zeroValue9
  t46 := Tryd.underlying81
  a46 := Tryd.isAgg81
  z46 := Tryd.sizeOf81
  v46 := Tryd.zeroValue81
  t53 := Tryd.underlying57
  a53 := Tryd.isAgg57
  z53 := Tryd.sizeOf57
  v53 := Tryd.zeroValue57
  t212 := Tryd.underlying88
  a212 := Tryd.isAgg88
  z212 := Tryd.sizeOf88
  v212 := Tryd.zeroValue88
  g17 := by kernel_rfl
  i0 := by kernel_rfl
  i3 := by kernel_rfl
  i4 := by kernel_rfl
  i5 := by kernel_rfl
  i9 := by kernel_rfl
  i46 := by kernel_rfl
  i53 := by kernel_rfl
  i212 := by kernel_rfl
  m17 := by kernel_rfl }
open Go.Lib in
theorem Tryd.internal_strconv_numDigits (u : Nat) (h1 : 1 ≤ u) (h2 : u < 18446744073709551616) (w : World) (htab : Lib.TabIs Tryd.prog w "internal/strconv.uint64pow10" .u64 Lib.pow10Tab) :
    Calls Tryd.prog 52 #[.int .u64 u] w fun e w' => e = .returned (.int .i64 (Lib.nDigits u)) ∧ w' = w := Any.internal_strconv_numDigits Tryd.laysM284 u h1 h2 w htab
def Tryd.lays285_ren : Go.Shelf.Ren := ⟨fun | 285 => 53 | n => n, fun | 37 => 37 | 53 => 57 | 3 => 3 | 4 => 4 | 51 => 89 | 9 => 9 | 5 => 5 | 0 => 0 | n => n, fun | n => n⟩
theorem Tryd.lays285 : Go.Proofs.Lays.n285 Tryd.prog Tryd.lays285_ren := {
  mixed := by kernel_rfl
  f285 := Tryd.func53.trans (congrArg some (by kernel_rfl))
  t0 := Tryd.underlying0
  a0 := Tryd.isAgg0
  z0 := Tryd.sizeOf0
  v0 := Tryd.zeroValue0
  t3 := Tryd.underlying3
  a3 := Tryd.isAgg3
  z3 := Tryd.sizeOf3
  v3 := Tryd.zeroValue3
  t4 := Tryd.underlying4
  a4 := Tryd.isAgg4
  z4 := Tryd.sizeOf4
  v4 := Tryd.zeroValue4
  t5 := Tryd.underlying5
  a5 := Tryd.isAgg5
  z5 := Tryd.sizeOf5
  v5 := Tryd.zeroValue5
  t9 := Tryd.underlying9
  a9 := Tryd.isAgg9
  z9 := Tryd.sizeOf9
  v9 := Tryd.zeroValue9
  t37 := Tryd.underlying37
  a37 := Tryd.isAgg37
  z37 := Tryd.sizeOf37
  v37 := Tryd.zeroValue37
  t51 := Tryd.underlying89
  a51 := Tryd.isAgg89
  z51 := Tryd.sizeOf89
  v51 := Tryd.zeroValue89
  t53 := Tryd.underlying57
  a53 := Tryd.isAgg57
  z53 := Tryd.sizeOf57
  v53 := Tryd.zeroValue57 }
open Go.RowKit Go.Sort Go.Lib in
theorem Tryd.internal_strconv_formatBase10 (blk off cap : Nat) (u : Nat) (d : Array UInt8) (w : World) (hH : Holds (fun (b : UInt8) => Value.int .u8 (b.toNat : Int)) w blk off d) (hu : u < 10 ^ d.size) (hu64 : u < 18446744073709551616) (hsz : d.size < 4611686018427387904) :
    Calls Tryd.prog 53 #[.slice (some ⟨blk, off, none⟩) d.size cap, .int .u64 u] w fun e w' =>
      e = .returned (.tuple #[]) ∧ ∃ (n v' : Nat) (dk : Array UInt8), w' = (putRow (fun (b : UInt8) => Value.int .u8 (b.toNat : Int)) w blk off dk).drewN n ∧ FmtInv d.size u 0 v' dk := Any.internal_strconv_formatBase10 Tryd.lays285 blk off cap u d w hH hu hu64 hsz
def Tryd.laysPu14_ren : Go.Shelf.Ren := ⟨fun | 14 => 36 | 16 => 48 | 17 => 49 | 19 => 65 | 20 => 66 | 21 => 67 | 22 => 68 | 23 => 69 | 24 => 70 | 25 => 82 | 27 => 84 | 26 => 83 | 28 => 92 | 29 => 38 | 30 => 51 | 31 => 52 | 32 => 53 | 33 => 54 | 35 => 72 | 34 => 71 | 36 => 73 | 37 => 74 | 38 => 75 | 39 => 85 | 40 => 86 | n => n, fun | 9 => 9 | 3 => 3 | 22 => 57 | 24 => 59 | 25 => 60 | 4 => 4 | 34 => 82 | 5 => 5 | 36 => 81 | 37 => 37 | 0 => 0 | 39 => 84 | 21 => 21 | 44 => 103 | 47 => 116 | 50 => 119 | 48 => 117 | 2 => 2 | 52 => 71 | 55 => 74 | 59 => 88 | 60 => 89 | 20 => 20 | 61 => 90 | 65 => 120 | 66 => 121 | 67 => 115 | n => n, fun | 0 => 4 | 1 => 5 | 2 => 1 | 3 => 6 | 4 => 7 | n => n⟩
theorem Tryd.laysPu14 : Go.Proofs.LaysPu.n14 Tryd.prog Tryd.laysPu14_ren := {
  mixed := by kernel_rfl
  f14 := Tryd.func36.trans (congrArg some (by kernel_rfl))
  f16 := Tryd.func48.trans (congrArg some (by kernel_rfl))
  f17 := Tryd.func49.trans (congrArg some (by kernel_rfl))
  f19 := Tryd.func65.trans (congrArg some (by kernel_rfl))
  f20 := Tryd.func66.trans (congrArg some (by kernel_rfl))
  f21 := Tryd.func67.trans (congrArg some (by kernel_rfl))
  f22 := Tryd.func68.trans (congrArg some (by kernel_rfl))
  f23 := Tryd.func69.trans (congrArg some (by kernel_rfl))
  f24 := Tryd.func70.trans (congrArg some (by kernel_rfl))
  f25 := Tryd.func82.trans (congrArg some (by kernel_rfl))
  f26 := Tryd.func83.trans (congrArg some (by kernel_rfl))
  f27 := Tryd.func84.trans (congrArg some (by kernel_rfl))
  f28 := Tryd.func92.trans (congrArg some (by kernel_rfl))
  f29 := Tryd.func38.trans (congrArg some (by kernel_rfl))
  f30 := Tryd.func51.trans (congrArg some (by kernel_rfl))
  f31 := Tryd.func52.trans (congrArg some (by kernel_rfl))
  f32 := Tryd.func53.trans (congrArg some (by kernel_rfl))
  f33 := Tryd.func54.trans (congrArg some (by kernel_rfl))
  f34 := Tryd.func71.trans (congrArg some (by kernel_rfl))
  f35 := Tryd.func72.trans (congrArg some (by kernel_rfl))
  f36 := Tryd.func73.trans (congrArg some (by kernel_rfl))
  f37 := Tryd.func74.trans (congrArg some (by kernel_rfl))
  f38 := Tryd.func75.trans (congrArg some (by kernel_rfl))
  f39 := Tryd.func85.trans (congrArg some (by kernel_rfl))
  f40 := Tryd.func86.trans (congrArg some (by kernel_rfl))
  t0 := Tryd.underlying0
  a0 := Tryd.isAgg0
  z0 := Tryd.sizeOf0
  v0 := Tryd.zeroValue0
  i0 := by kernel_rfl
  t2 := Tryd.underlying2
  a2 := Tryd.isAgg2
  z2 := Tryd.sizeOf2
  v2 := Tryd.zeroValue2
  i2 := by kernel_rfl
  t3 := Tryd.underlying3
  a3 := Tryd.isAgg3
  z3 := Tryd.sizeOf3
  v3 := Tryd.zeroValue3
  i3 := by kernel_rfl
  t4 := Tryd.underlying4
  a4 := Tryd.isAgg4
  z4 := Tryd.sizeOf4
  v4 := Tryd.zeroValue4
  i4 := by kernel_rfl
  t5 := Tryd.underlying5
  a5 := Tryd.isAgg5
  z5 := Tryd.sizeOf5
  v5 := Tryd.zeroValue5
  i5 := by kernel_rfl
  t9 := Tryd.underlying9
  a9 := Tryd.isAgg9
  z9 := Tryd.sizeOf9
  v9 := Tryd.zeroValue9
  i9 := by kernel_rfl
  t20 := Tryd.underlying20
  a20 := Tryd.isAgg20
  z20 := Tryd.sizeOf20
  v20 := Tryd.zeroValue20
  i20 := by kernel_rfl
  t21 := Tryd.underlying21
  a21 := Tryd.isAgg21
  z21 := Tryd.sizeOf21
  v21 := Tryd.zeroValue21
  i21 := by kernel_rfl
  t22 := Tryd.underlying57
  a22 := Tryd.isAgg57
  z22 := Tryd.sizeOf57
  v22 := Tryd.zeroValue57
  i22 := by kernel_rfl
  t24 := Tryd.underlying59
  a24 := Tryd.isAgg59
  z24 := Tryd.sizeOf59
  v24 := Tryd.zeroValue59
  i24 := by kernel_rfl
  t25 := Tryd.underlying60
  a25 := Tryd.isAgg60
  z25 := Tryd.sizeOf60
  v25 := Tryd.zeroValue60
  i25 := by kernel_rfl
  t34 := Tryd.underlying82
  a34 := Tryd.isAgg82
  z34 := Tryd.sizeOf82
  v34 := Tryd.zeroValue82
  i34 := by kernel_rfl
  c34 := by kernel_rfl
  t36 := Tryd.underlying81
  a36 := Tryd.isAgg81
  z36 := Tryd.sizeOf81
  v36 := Tryd.zeroValue81
  i36 := by kernel_rfl
  t37 := Tryd.underlying37
  a37 := Tryd.isAgg37
  z37 := Tryd.sizeOf37
  v37 := Tryd.zeroValue37
  i37 := by kernel_rfl
  t39 := Tryd.underlying84
  a39 := Tryd.isAgg84
  z39 := Tryd.sizeOf84
  v39 := Tryd.zeroValue84
  i39 := by kernel_rfl
  t44 := Tryd.underlying103
  a44 := Tryd.isAgg103
  z44 := Tryd.sizeOf103
  v44 := Tryd.zeroValue103
  i44 := by kernel_rfl
  t47 := Tryd.underlying116
  a47 := Tryd.isAgg116
  z47 := Tryd.sizeOf116
  v47 := Tryd.zeroValue116
  i47 := by kernel_rfl
  t48 := Tryd.underlying117
  a48 := Tryd.isAgg117
  z48 := Tryd.sizeOf117
  v48 := Tryd.zeroValue117
  i48 := by kernel_rfl
  t50 := Tryd.underlying119
  a50 := Tryd.isAgg119
  z50 := Tryd.sizeOf119
  v50 := Tryd.zeroValue119
  i50 := by kernel_rfl
  t52 := Tryd.underlying71
  a52 := Tryd.isAgg71
  z52 := Tryd.sizeOf71
  v52 := Tryd.zeroValue71
  i52 := by kernel_rfl
  t55 := Tryd.underlying74
  a55 := Tryd.isAgg74
  z55 := Tryd.sizeOf74
  v55 := Tryd.zeroValue74
  i55 := by kernel_rfl
  t59 := Tryd.underlying88
  a59 := Tryd.isAgg88
  z59 := Tryd.sizeOf88
  v59 := Tryd.zeroValue88
  i59 := by kernel_rfl
  t60 := Tryd.underlying89
  a60 := Tryd.isAgg89
  z60 := Tryd.sizeOf89
  v60 := Tryd.zeroValue89
  i60 := by kernel_rfl
  t61 := Tryd.underlying90
  a61 := Tryd.isAgg90
  z61 := Tryd.sizeOf90
  t65 := Tryd.underlying120
  a65 := Tryd.isAgg120
  z65 := Tryd.sizeOf120
  v65 := Tryd.zeroValue120
  i65 := by kernel_rfl
  t66 := Tryd.underlying121
  a66 := Tryd.isAgg121
  z66 := Tryd.sizeOf121
  v66 := Tryd.zeroValue121
  i66 := by kernel_rfl
  t67 := Tryd.underlying115
  a67 := Tryd.isAgg115
  z67 := Tryd.sizeOf115
  v67 := Tryd.zeroValue115
  i67 := by kernel_rfl
  g0 := by kernel_rfl
  m0 := by kernel_rfl
  g1 := by kernel_rfl
  m1 := by kernel_rfl
  g2 := by kernel_rfl
  m2 := by kernel_rfl
  g3 := by kernel_rfl
  m3 := by kernel_rfl
  g4 := by kernel_rfl
  m4 := by kernel_rfl }
open Go.RowKit in
theorem Tryd.strconv_ParseUint_10_at64_ok (s : ByteArray) (hmax : s.size ≤ 9223372036854775806) (u : Nat) (h : Lib.parseUintB 64 s.data.toList = .ok u) (w : World) :
    Calls Tryd.prog 36 #[.string s, .int .i64 10, .int .i64 64] w fun e w' => e = .returned (.tuple #[.int .u64 u, .nilIface]) ∧ (w' = w ∨ w' = Lib.bytesWorld w 5 s) := Any.strconv_ParseUint_10_at64_ok Tryd.laysPu14 s hmax u h w
open Go.RowKit in
theorem Tryd.strconv_ParseUint_10_at64_syntax (s : ByteArray) (hlim : s.size ≤ 281474976710656) (h : Lib.parseUintB 64 s.data.toList = .syntax) (ev : Value) (w : World) (hv : w.cell? ⟨4, 0, none⟩ = some ev) (hev : ev = .nilIface ∨ ∃ te pe, ev = .iface te pe) :
    Calls Tryd.prog 36 #[.string s, .int .i64 10, .int .i64 64] w fun e w' => ∃ N, e = .returned (.tuple #[.int .u64 0, .iface 84 (.pointer (some ⟨N, 0, none⟩))]) ∧ w.heap.size ≤ N ∧ w'.heap[N]? = some (.cells #[.string ⟨#[80, 97, 114, 115, 101, 85, 105, 110, 116]⟩, .string s, ev] 103 (0, 0)) ∧ Below w.heap.size w w' := Any.strconv_ParseUint_10_at64_syntax Tryd.laysPu14 s hlim h ev w hv hev
open Go.RowKit in
theorem Tryd.strconv_ParseUint_10_at64_range (s : ByteArray) (hlim : s.size ≤ 281474976710656) (h : Lib.parseUintB 64 s.data.toList = .range) (ev : Value) (w : World) (hv : w.cell? ⟨5, 0, none⟩ = some ev) (hev : ev = .nilIface ∨ ∃ te pe, ev = .iface te pe) :
    Calls Tryd.prog 36 #[.string s, .int .i64 10, .int .i64 64] w fun e w' => ∃ N, e = .returned (.tuple #[.int .u64 18446744073709551615, .iface 84 (.pointer (some ⟨N, 0, none⟩))]) ∧ w.heap.size ≤ N ∧ w'.heap[N]? = some (.cells #[.string ⟨#[80, 97, 114, 115, 101, 85, 105, 110, 116]⟩, .string s, ev] 103 (0, 0)) ∧ Below w.heap.size w w' := Any.strconv_ParseUint_10_at64_range Tryd.laysPu14 s hlim h ev w hv hev
def Tryd.lays144_ren : Go.Shelf.Ren := ⟨fun | 144 => 45 | 143 => 60 | 219 => 46 | 217 => 61 | 225 => 62 | 224 => 63 | 267 => 64 | 266 => 80 | 314 => 81 | n => n, fun | 9 => 9 | 4 => 4 | 3 => 3 | 5 => 5 | 46 => 81 | 146 => 99 | 51 => 89 | n => n, fun | 1 => 0 | n => n⟩
theorem Tryd.lays144 : Go.Proofs.Lays.n144 Tryd.prog Tryd.lays144_ren := {
  mixed := by kernel_rfl
  f143 := Tryd.func60.trans (congrArg some (by kernel_rfl))
  f144 := Tryd.func45.trans (congrArg some (by kernel_rfl))
  f217 := Tryd.func61.trans (congrArg some (by kernel_rfl))
  f219 := Tryd.func46.trans (congrArg some (by kernel_rfl))
  f224 := Tryd.func63.trans (congrArg some (by kernel_rfl))
  f225 := Tryd.func62.trans (congrArg some (by kernel_rfl))
  f266 := Tryd.func80.trans (congrArg some (by kernel_rfl))
  f267 := Tryd.func64.trans (congrArg some (by kernel_rfl))
  f314 := Tryd.func81.trans (congrArg some (by kernel_rfl))
  t3 := Tryd.underlying3
  a3 := Tryd.isAgg3
  z3 := Tryd.sizeOf3
  v3 := Tryd.zeroValue3
  t4 := Tryd.underlying4
  a4 := Tryd.isAgg4
  z4 := Tryd.sizeOf4
  v4 := Tryd.zeroValue4
  t5 := Tryd.underlying5
  a5 := Tryd.isAgg5
  z5 := Tryd.sizeOf5
  v5 := Tryd.zeroValue5
  t9 := Tryd.underlying9
  a9 := Tryd.isAgg9
  z9 := Tryd.sizeOf9
  v9 := Tryd.zeroValue9
  t46 := Tryd.underlying81
  a46 := Tryd.isAgg81
  z46 := Tryd.sizeOf81
  v46 := Tryd.zeroValue81
  t51 := Tryd.underlying89
  a51 := Tryd.isAgg89
  z51 := Tryd.sizeOf89
  v51 := Tryd.zeroValue89
  t146 := Tryd.underlying99
  a146 := Tryd.isAgg99
  z146 := Tryd.sizeOf99
  v146 := Tryd.zeroValue99
  g1 := by kernel_rfl }
open Go.RowKit Go.Lib in
theorem Tryd.strings_Contains (s sub : ByteArray) (m : Int) (w : World) (hs : s.size < 4294967281) (hm : w.cell? ⟨0, 0, none⟩ = some (.int .i64 m)) :
    Calls Tryd.prog 45 #[.string s, .string sub] w fun e w' => e = .returned (.bool (Lib.contains s.data.toList sub.data.toList)) ∧ w' = w := Any.strings_Contains Tryd.lays144 s sub m w hs hm
def Tryd.lays145_ren : Go.Shelf.Ren := ⟨fun | 145 => 25 | 220 => 34 | 219 => 46 | 217 => 61 | 225 => 62 | 224 => 63 | 267 => 64 | 266 => 80 | 314 => 81 | n => n, fun | 9 => 9 | 4 => 4 | 59 => 45 | 3 => 3 | 5 => 5 | 46 => 81 | 146 => 99 | 51 => 89 | n => n, fun | 1 => 0 | n => n⟩
theorem Tryd.lays145 : Go.Proofs.Lays.n145 Tryd.prog Tryd.lays145_ren := {
  mixed := by kernel_rfl
  f145 := Tryd.func25.trans (congrArg some (by kernel_rfl))
  f217 := Tryd.func61.trans (congrArg some (by kernel_rfl))
  f219 := Tryd.func46.trans (congrArg some (by kernel_rfl))
  f220 := Tryd.func34.trans (congrArg some (by kernel_rfl))
  f224 := Tryd.func63.trans (congrArg some (by kernel_rfl))
  f225 := Tryd.func62.trans (congrArg some (by kernel_rfl))
  f266 := Tryd.func80.trans (congrArg some (by kernel_rfl))
  f267 := Tryd.func64.trans (congrArg some (by kernel_rfl))
  f314 := Tryd.func81.trans (congrArg some (by kernel_rfl))
  t3 := Tryd.underlying3
  a3 := Tryd.isAgg3
  z3 := Tryd.sizeOf3
  v3 := Tryd.zeroValue3
  t4 := Tryd.underlying4
  a4 := Tryd.isAgg4
  z4 := Tryd.sizeOf4
  v4 := Tryd.zeroValue4
  t5 := Tryd.underlying5
  a5 := Tryd.isAgg5
  z5 := Tryd.sizeOf5
  v5 := Tryd.zeroValue5
  t9 := Tryd.underlying9
  a9 := Tryd.isAgg9
  z9 := Tryd.sizeOf9
  v9 := Tryd.zeroValue9
  t46 := Tryd.underlying81
  a46 := Tryd.isAgg81
  z46 := Tryd.sizeOf81
  v46 := Tryd.zeroValue81
  t51 := Tryd.underlying89
  a51 := Tryd.isAgg89
  z51 := Tryd.sizeOf89
  v51 := Tryd.zeroValue89
  t59 := Tryd.underlying45
  a59 := Tryd.isAgg45
  z59 := Tryd.sizeOf45
  v59 := Tryd.zeroValue45
  t146 := Tryd.underlying99
  a146 := Tryd.isAgg99
  z146 := Tryd.sizeOf99
  v146 := Tryd.zeroValue99
  g1 := by kernel_rfl }
open Go.RowKit Go.Lib in
theorem Tryd.strings_Cut (s sep : ByteArray) (m : Int) (w : World) (hs : s.size < 4294967281) (hm : w.cell? ⟨0, 0, none⟩ = some (.int .i64 m)) :
    Calls Tryd.prog 25 #[.string s, .string sep] w fun e w' => e = .returned (.tuple #[.string ⟨(Lib.cut s.data.toList sep.data.toList).1.toArray⟩, .string ⟨(Lib.cut s.data.toList sep.data.toList).2.1.toArray⟩, .bool (Lib.cut s.data.toList sep.data.toList).2.2]) ∧ ∃ n, w' = w.drewN n := Any.strings_Cut Tryd.lays145 s sep m w hs hm
def Tryd.laysM145_ren : Go.Shelf.Ren := ⟨fun | 145 => 25 | 220 => 34 | 219 => 46 | 217 => 61 | 225 => 62 | 224 => 63 | 267 => 64 | 266 => 80 | 314 => 81 | n => n, fun | 9 => 9 | 4 => 4 | 59 => 45 | 3 => 3 | 5 => 5 | 46 => 81 | 146 => 99 | 51 => 89 | n => n, fun | 1 => 0 | n => n⟩
theorem Tryd.laysM145 : Go.Proofs.LaysM.n145 Tryd.prog Tryd.laysM145_ren := {
  mixed := by kernel_rfl
  f145 := Tryd.func25.trans (congrArg some (by kernel_rfl))
  f217 := Tryd.func61.trans (congrArg some (by kernel_rfl))
  f219 := Tryd.func46.trans (congrArg some (by kernel_rfl))
  f220 := Tryd.func34.trans (congrArg some (by kernel_rfl))
  f224 := Tryd.func63.trans (congrArg some (by kernel_rfl))
  f225 := Tryd.func62.trans (congrArg some (by kernel_rfl))
  f266 := Tryd.func80.trans (congrArg some (by kernel_rfl))
  f267 := Tryd.func64.trans (congrArg some (by kernel_rfl))
  f314 := Tryd.func81.trans (congrArg some (by kernel_rfl))
  t3 := Tryd.underlying3
  a3 := Tryd.isAgg3
  z3 := Tryd.sizeOf3
  v3 := Tryd.zeroValue3
  t4 := Tryd.underlying4
  a4 := Tryd.isAgg4
  z4 := Tryd.sizeOf4
  v4 := Tryd.zeroValue4
  t5 := Tryd.underlying5
  a5 := Tryd.isAgg5
  z5 := Tryd.sizeOf5
  v5 := Tryd.zeroValue5
  t9 := Tryd.underlying9
  a9 := Tryd.isAgg9
  z9 := Tryd.sizeOf9
  v9 := Tryd.zeroValue9
  t46 := Tryd.underlying81
  a46 := Tryd.isAgg81
  z46 := Tryd.sizeOf81
  v46 := Tryd.zeroValue81
  t51 := Tryd.underlying89
  a51 := Tryd.isAgg89
  z51 := Tryd.sizeOf89
  v51 := Tryd.zeroValue89
  t59 := Tryd.underlying45
  a59 := Tryd.isAgg45
  z59 := Tryd.sizeOf45
  v59 := Tryd.zeroValue45
  t146 := Tryd.underlying99
  a146 := Tryd.isAgg99
  z146 := Tryd.sizeOf99
  v146 := Tryd.zeroValue99
  g1 := by kernel_rfl
  i3 := by kernel_rfl
  i4 := by kernel_rfl
  i5 := by kernel_rfl
  i9 := by kernel_rfl
  i46 := by kernel_rfl
  i51 := by kernel_rfl
  i59 := by kernel_rfl
  i146 := by kernel_rfl
  m1 := by kernel_rfl
  s1_3 := fun w h => Go.Proofs.cell_of_shapedOpen_int (zero := #[.int .i64 0]) (t := 3) h (of_decide_eq_true (by kernel_rfl)) (by kernel_rfl) rfl (by kernel_rfl) (by kernel_rfl) Tryd.underlying3 }
def Tryd.lays105_ren : Go.Shelf.Ren := ⟨fun | 105 => 78 | 212 => 87 | 99 => 44 | 165 => 88 | 166 => 89 | 170 => 90 | 169 => 91 | 263 => 93 | 264 => 94 | 206 => 59 | 240 => 95 | 241 => 96 | 276 => 97 | 277 => 98 | n => n, fun | 9 => 9 | 3 => 3 | 4 => 4 | 20 => 20 | 0 => 0 | 46 => 81 | 109 => 106 | 5 => 5 | 72 => 110 | 76 => 112 | 51 => 89 | 146 => 99 | 53 => 57 | 148 => 123 | 70 => 108 | 37 => 37 | 75 => 59 | 127 => 116 | 164 => 125 | 80 => 115 | n => n, fun | n => n⟩
theorem Tryd.lays105 : Go.Proofs.Lays.n105 Tryd.prog Tryd.lays105_ren := {
  mixed := by kernel_rfl
  f99 := Tryd.func44.trans (congrArg some (by kernel_rfl))
  f105 := Tryd.func78.trans (congrArg some (by kernel_rfl))
  f165 := Tryd.func88.trans (congrArg some (by kernel_rfl))
  f166 := Tryd.func89.trans (congrArg some (by kernel_rfl))
  f169 := Tryd.func91.trans (congrArg some (by kernel_rfl))
  f170 := Tryd.func90.trans (congrArg some (by kernel_rfl))
  f206 := Tryd.func59.trans (congrArg some (by kernel_rfl))
  f212 := Tryd.func87.trans (congrArg some (by kernel_rfl))
  f240 := Tryd.func95.trans (congrArg some (by kernel_rfl))
  f241 := Tryd.func96.trans (congrArg some (by kernel_rfl))
  f263 := Tryd.func93.trans (congrArg some (by kernel_rfl))
  f264 := Tryd.func94.trans (congrArg some (by kernel_rfl))
  f276 := Tryd.func97.trans (congrArg some (by kernel_rfl))
  f277 := Tryd.func98.trans (congrArg some (by kernel_rfl))
  t0 := Tryd.underlying0
  a0 := Tryd.isAgg0
  z0 := Tryd.sizeOf0
  v0 := Tryd.zeroValue0
  t3 := Tryd.underlying3
  a3 := Tryd.isAgg3
  z3 := Tryd.sizeOf3
  v3 := Tryd.zeroValue3
  t4 := Tryd.underlying4
  a4 := Tryd.isAgg4
  z4 := Tryd.sizeOf4
  v4 := Tryd.zeroValue4
  t5 := Tryd.underlying5
  a5 := Tryd.isAgg5
  z5 := Tryd.sizeOf5
  v5 := Tryd.zeroValue5
  t9 := Tryd.underlying9
  a9 := Tryd.isAgg9
  z9 := Tryd.sizeOf9
  v9 := Tryd.zeroValue9
  t20 := Tryd.underlying20
  a20 := Tryd.isAgg20
  z20 := Tryd.sizeOf20
  v20 := Tryd.zeroValue20
  t37 := Tryd.underlying37
  a37 := Tryd.isAgg37
  z37 := Tryd.sizeOf37
  v37 := Tryd.zeroValue37
  t46 := Tryd.underlying81
  a46 := Tryd.isAgg81
  z46 := Tryd.sizeOf81
  v46 := Tryd.zeroValue81
  t51 := Tryd.underlying89
  a51 := Tryd.isAgg89
  z51 := Tryd.sizeOf89
  v51 := Tryd.zeroValue89
  t53 := Tryd.underlying57
  a53 := Tryd.isAgg57
  z53 := Tryd.sizeOf57
  v53 := Tryd.zeroValue57
  t70 := Tryd.underlying108
  a70 := Tryd.isAgg108
  z70 := Tryd.sizeOf108
  v70 := Tryd.zeroValue108
  t72 := Tryd.underlying110
  a72 := Tryd.isAgg110
  z72 := Tryd.sizeOf110
  v72 := Tryd.zeroValue110
  t75 := Tryd.underlying59
  a75 := Tryd.isAgg59
  z75 := Tryd.sizeOf59
  v75 := Tryd.zeroValue59
  t76 := Tryd.underlying112
  a76 := Tryd.isAgg112
  z76 := Tryd.sizeOf112
  v76 := Tryd.zeroValue112
  t109 := Tryd.underlying106
  a109 := Tryd.isAgg106
  z109 := Tryd.sizeOf106
  v109 := Tryd.zeroValue106
  t127 := Tryd.underlying116
  a127 := Tryd.isAgg116
  z127 := Tryd.sizeOf116
  v127 := Tryd.zeroValue116
  t146 := Tryd.underlying99
  a146 := Tryd.isAgg99
  z146 := Tryd.sizeOf99
  v146 := Tryd.zeroValue99
  t148 := Tryd.underlying123
  a148 := Tryd.isAgg123
  z148 := Tryd.sizeOf123
  v148 := Tryd.zeroValue123
  t164 := Tryd.underlying125
  a164 := Tryd.isAgg125
  z164 := Tryd.sizeOf125
  v164 := Tryd.zeroValue125 }
theorem Tryd.Builder_Extra_105 : Builder.Extra Tryd.prog Tryd.lays105_ren := {
  sizeBuilder := by kernel_rfl
  liesBuilder := by kernel_rfl
  t5 := Tryd.underlying5
  a5 := Tryd.isAgg5
  z5 := Tryd.sizeOf5
  v5 := Tryd.zeroValue5
  infoByte := by kernel_rfl
  cellsByte := by kernel_rfl
  sizeByte := by kernel_rfl
  neB5 := by decide }
open Go.RowKit Go.Lib in
theorem Tryd.strings_Repeat (s : ByteArray) (c : Nat) (w : World) (hc : c ≤ 9223372036854775807) (hlen : s.size * c ≤ 140737488355328) :
    Calls Tryd.prog 78 #[.string s, .int .i64 c] w fun e w' => e = .returned (.string ⟨(Lib.repeatL s.data.toList c).toArray⟩) ∧ Below w.heap.size w w' := Any.strings_Repeat Tryd.lays105 Tryd.Builder_Extra_105 s c w hc hlen
def Tryd.lays196_ren : Go.Shelf.Ren := ⟨fun | 196 => 56 | 259 => 76 | n => n, fun | 9 => 9 | 4 => 4 | 3 => 3 | 5 => 5 | 12 => 12 | 119 => 94 | 0 => 0 | 46 => 81 | 139 => 97 | 138 => 96 | 53 => 57 | n => n, fun | 3 => 2 | 4 => 3 | n => n⟩
theorem Tryd.lays196 : Go.Proofs.Lays.n196 Tryd.prog Tryd.lays196_ren := {
  mixed := by kernel_rfl
  f196 := Tryd.func56.trans (congrArg some (by kernel_rfl))
  f259 := Tryd.func76.trans (congrArg some (by kernel_rfl))
  t0 := Tryd.underlying0
  a0 := Tryd.isAgg0
  z0 := Tryd.sizeOf0
  v0 := Tryd.zeroValue0
  t3 := Tryd.underlying3
  a3 := Tryd.isAgg3
  z3 := Tryd.sizeOf3
  v3 := Tryd.zeroValue3
  t4 := Tryd.underlying4
  a4 := Tryd.isAgg4
  z4 := Tryd.sizeOf4
  v4 := Tryd.zeroValue4
  t5 := Tryd.underlying5
  a5 := Tryd.isAgg5
  z5 := Tryd.sizeOf5
  v5 := Tryd.zeroValue5
  t9 := Tryd.underlying9
  a9 := Tryd.isAgg9
  z9 := Tryd.sizeOf9
  v9 := Tryd.zeroValue9
  t12 := Tryd.underlying12
  a12 := Tryd.isAgg12
  z12 := Tryd.sizeOf12
  v12 := Tryd.zeroValue12
  t46 := Tryd.underlying81
  a46 := Tryd.isAgg81
  z46 := Tryd.sizeOf81
  v46 := Tryd.zeroValue81
  t53 := Tryd.underlying57
  a53 := Tryd.isAgg57
  z53 := Tryd.sizeOf57
  v53 := Tryd.zeroValue57
  t119 := Tryd.underlying94
  a119 := Tryd.isAgg94
  z119 := Tryd.sizeOf94
  t138 := Tryd.underlying96
  a138 := Tryd.isAgg96
  z138 := Tryd.sizeOf96
  v138 := Tryd.zeroValue96
  t139 := Tryd.underlying97
  a139 := Tryd.isAgg97
  z139 := Tryd.sizeOf97
  v139 := Tryd.zeroValue97
  g3 := by kernel_rfl
  g4 := by kernel_rfl }
open Go.RowKit Go.Lib in
theorem Tryd.utf8_ValidString (s : ByteArray) (w : World) (hs : s.size ≤ 9223372036854775807) (hT : Lib.Utf8Tabs (Tryd.lays196_ren.g 3) (Tryd.lays196_ren.g 4) w) :
    Calls Tryd.prog 56 #[.string s] w fun e w' => e = .returned (.bool (Lib.validD s.data.toList)) ∧ Below w.heap.size w w' := Any.utf8_ValidString Tryd.lays196 s w hs hT
end Go.Proofs
end
section
namespace Go.Proofs
open Go.Shelf Go.RowKit Go.Sort Go.Lib
theorem holds_zero0 (w : World) (T : TypeId) (nd : Nat) (hs : nd ≤ 24) : Holds (fun (b : UInt8) => Value.int .u8 (b.toNat : Int)) (w.alloc (.cells zeros24 T)) w.heap.size 0 (Array.replicate nd (0 : UInt8)) := fun j hj => by
  have hj' : j < nd := by simpa using hj
  refine ⟨?_, World.frozen?_alloc_new _ _ _ _⟩
  rw [World.cell?_alloc_new, zeros24_at _ (by omega), getElem!_pos _ j hj]
  simp
theorem fin_pos0 (w : World) (o : Obj) (dk : Array UInt8) (k : Nat) : ∃ os, (putRow (fun (b : UInt8) => Value.int .u8 (b.toNat : Int)) (w.alloc o) w.heap.size 0 dk).drewN k = grow (w.drewN k) os := by
  rw [alloc_eq_grow]
  obtain ⟨os', _, e⟩ := putRow_grow_new (fun (b : UInt8) => Value.int .u8 (b.toNat : Int)) w #[o] w.heap.size 0 dk (Nat.le_refl _)
  exact ⟨os', by rw [e]; rfl⟩
set_option maxHeartbeats 6400000 in
set_option maxRecDepth 100000 in
theorem Tryd.internal_FormatUint_10 (u : Nat) (hu : u < 18446744073709551616) (w : World) (htab : Lib.TabIs Tryd.prog w "internal/strconv.uint64pow10" .u64 Lib.pow10Tab) :
    Calls Tryd.prog 50 #[.int .u64 u, .int .i64 10] w fun e w' => e = .returned (.string ⟨(Lib.decDigits u).toArray⟩) ∧ ∃ k os, w' = grow (w.drewN k) os := by
  by_cases hs : u < 100
  · go_enter Tryd.func50, Tryd.ntmps50
    go_wp2_with (go_at_call 51; refine (Tryd.internal_strconv_small u hs _).mono ?_; rintro e w' ⟨rfl, rfl⟩)
    go_ret
    exact ⟨rfl, 0, #[], by simp [World.drewN_zero]⟩
  · have hu1 : 1 ≤ u := by omega
    have hnd20 : Lib.nDigits u ≤ 20 := by have := Lib.numDigits_eq u hu1 hu; split at this <;> omega
    have hb3 : Lib.nDigits u ≤ 23 := by omega
    have hal : Tryd.prog.arrayLen 71 = 24 := by kernel_rfl
    have hsl1 : ∀ W, (Instr.sliceAt 71 (.pointer (some ⟨w.heap.size, 0, none⟩)) none (some (.int .i64 (Lib.nDigits u : Int))) none).run Tryd.prog W = .ok (.slice (some ⟨w.heap.size, 0, none⟩) (Lib.nDigits u) 24) W := fun W => by
      rw [run_sliceAt_array_h W 71 ⟨w.heap.size, 0, none⟩ (by simp [Program.arrayLen, Program.elem, Tryd.underlying71]) .i64 (Lib.nDigits u : Int) (by omega) (by rw [hal]; omega)]
      go_simp
    have hH0 := holds_zero0 w 71 (Lib.nDigits u) (by omega)
    have hfmt := Tryd.internal_strconv_formatBase10 w.heap.size 0 24 u (Array.replicate (Lib.nDigits u) 0) (w.alloc (.cells Lib.zeros24 71)) hH0 (by rw [Array.size_replicate]; exact Lib.lt_pow_nDigits u) hu (by rw [Array.size_replicate]; omega)
    rw [Array.size_replicate] at hfmt
    have HH0 := Lib.hid hH0
    clear hH0 hal
    go_enter Tryd.func50, Tryd.ntmps50
    go_wp2_with (first
      | (go_at_call 52; refine (Tryd.internal_strconv_numDigits u hu1 hu _ (Lib.tabIs_alloc htab _)).mono ?_; rintro e w' ⟨rfl, rfl⟩))
    go_at_call 53
    refine hfmt.mono ?_
    rintro e w' ⟨rfl, k, v', dk, rfl, hF⟩
    have hcv : (convert 37 9 (.slice (some ⟨w.heap.size, 0, none⟩) (Lib.nDigits u) 24)).run Tryd.prog ((putRow (fun (b : UInt8) => Value.int .u8 (b.toNat : Int)) (w.alloc (.cells Lib.zeros24 71)) w.heap.size 0 dk).drewN k) = .ok (.string ⟨(Lib.decDigits u).toArray⟩) ((putRow (fun (b : UInt8) => Value.int .u8 (b.toNat : Int)) (w.alloc (.cells Lib.zeros24 71)) w.heap.size 0 dk).drewN k) := by
      have h := run_convert_bytes_back (P := Tryd.prog) ((putRow (fun (b : UInt8) => Value.int .u8 (b.toNat : Int)) (w.alloc (.cells Lib.zeros24 71)) w.heap.size 0 dk).drewN k) 37 9 5 ⟨w.heap.size, 0, none⟩ 24 (Lib.decDigits u) Tryd.underlying37 Tryd.underlying5 Tryd.underlying9 (fun j hj => by
        rw [Lib.row_is_numeral hF j hj, Lib.add_plain, World.cell?_drewN]
        exact cell?_putRow (fun (b : UInt8) => Value.int .u8 (b.toNat : Int)) _ w.heap.size 0 _ dk HH0.out (by rw [hF.size, Array.size_replicate]) j (by rw [hF.size]; rw [Lib.decDigits_length] at hj; exact hj))
      rw [Lib.decDigits_length] at h
      exact h
    go_wp2
    go_ret
    obtain ⟨os, eo⟩ := fin_pos0 w (.cells Lib.zeros24 71) dk k
    exact ⟨rfl, k, os, eo⟩
end Go.Proofs
end
section
namespace Go.Proofs.YtpabggjnkoehfaaDoor.Ext
open Go.Shelf Go.RowKit Go.Sort Go.Lib Go.Proofs.YtpabggjnkoehfaaDoorW.PrintWords
structure Lq (w : World) : Prop where
  m : ∃ v, w.cell? ⟨0, 0, none⟩ = some (.int .i64 v)
  tab : Lib.TabIs Tryd.prog w "internal/strconv.uint64pow10" .u64 Lib.pow10Tab
  e0 : ∃ tp p, w.cell? ⟨4, 0, none⟩ = some (.iface tp p)
  e1 : ∃ tp p, w.cell? ⟨5, 0, none⟩ = some (.iface tp p)
theorem cell_lt {w : World} {b o : Nat} {v : Value} (h : w.cell? ⟨b, o, none⟩ = some v) : b < w.heap.size := by
  unfold World.cell? at h
  by_cases hb : b < w.heap.size
  · exact hb
  · rw [Array.getElem?_eq_none (by simpa using hb)] at h; cases h
theorem tab_lt {w : World} (h : Lib.TabIs Tryd.prog w "internal/strconv.uint64pow10" .u64 Lib.pow10Tab) : ∃ g, Tryd.prog.globalNamed "internal/strconv.uint64pow10" = some g ∧ g < w.heap.size := by
  unfold Lib.TabIs World.var? at h
  cases hg : Tryd.prog.globalNamed "internal/strconv.uint64pow10" with
  | none => rw [hg] at h; cases h
  | some g =>
    refine ⟨g, rfl, ?_⟩
    rw [hg] at h
    by_cases hb : g < w.heap.size
    · exact hb
    · simp only [Option.bind_some] at h
      rw [Array.getElem?_eq_none (by omega)] at h; cases h
theorem Lq.below {w w' : World} (h : Lq w) (hb : Below w.heap.size w w') : Lq w' := by
  obtain ⟨v, hm⟩ := h.m
  obtain ⟨t0, p0, h0⟩ := h.e0
  obtain ⟨t1, p1, h1⟩ := h.e1
  obtain ⟨g, hg, hl⟩ := tab_lt h.tab
  exact ⟨⟨v, (hb.cell (p := ⟨0, 0, none⟩) (cell_lt hm)).trans hm⟩, var?_below hb hg hl h.tab, ⟨t0, p0, (hb.cell (p := ⟨4, 0, none⟩) (cell_lt h0)).trans h0⟩, ⟨t1, p1, (hb.cell (p := ⟨5, 0, none⟩) (cell_lt h1)).trans h1⟩⟩
theorem Lq.drawn {w w' : World} (h : Lq w) (hd : Drawn0 w w') : Lq w' := h.below hd.below
def strings_Cut.f (a0 a1 : ByteArray) : Option (ByteArray × ByteArray × Bool) :=
  if a0.size < 4294967281 then some (⟨(Lib.cut a0.data.toList a1.data.toList).1.toArray⟩, ⟨(Lib.cut a0.data.toList a1.data.toList).2.1.toArray⟩, (Lib.cut a0.data.toList a1.data.toList).2.2) else none
theorem strings_Cut.calls (a0 a1 r1 r2 : ByteArray) (r3 : Bool) (w : World) (hL : Aside0 (Lq w)) (h : strings_Cut.f a0 a1 = some (r1, r2, r3)) :
    Calls Tryd.prog 25 #[.string a0, .string a1] w fun e w' => e = .returned (.tuple #[.string r1, .string r2, .bool r3]) ∧ Drawn0 w w' := by
  obtain ⟨v, hm⟩ := hL.out.m
  unfold strings_Cut.f at h
  by_cases hs : a0.size < 4294967281
  · rw [if_pos hs] at h
    simp only [Option.some.injEq, Prod.mk.injEq] at h
    obtain ⟨rfl, rfl, rfl⟩ := h
    exact (Tryd.strings_Cut a0 a1 v w hs hm).mono fun e w' ⟨he, hw⟩ => ⟨he, ⟨hw⟩⟩
  · rw [if_neg hs] at h; cases h
theorem FormatUint_10 (u : Nat) (hu : u < 18446744073709551616) (w : World) (hL : Aside0 (Lq w)) :
    Calls Tryd.prog 37 #[.int .u64 u, .int .i64 10] w fun e w' => e = .returned (.string ⟨(Lib.decDigits u).toArray⟩) ∧ Below w.heap.size w w' := by
  go_enter Tryd.func37, Tryd.ntmps37
  go_wp2_with (go_at_call 50; refine (Tryd.internal_FormatUint_10 u hu _ hL.out.tab).mono ?_; rintro e w' ⟨rfl, k, os, rfl⟩)
  go_ret
  exact ⟨rfl, below_grow _ _ (Nat.le_refl _) _ _⟩
theorem parseUintM_le (M : Nat) (l : List UInt8) : ∀ (acc u : Nat), acc ≤ M → Lib.parseUintM M acc l = .ok u → u ≤ M := by
  induction l with
  | nil => intro acc u ha h; simp only [Lib.parseUintM] at h; injection h with h; omega
  | cons c r ih =>
    intro acc u ha h
    unfold Lib.parseUintM at h
    split at h
    · split at h
      · cases h
      · split at h
        · cases h
        · exact ih _ u (by omega) h
    · cases h
theorem parseUintB_le (B : Nat) (l : List UInt8) (u : Nat) (h : Lib.parseUintB B l = .ok u) : u ≤ 2 ^ B - 1 := by
  unfold Lib.parseUintB at h
  split at h
  · cases h
  · exact parseUintM_le _ l 0 u (Nat.zero_le _) h
def numberF (s : List UInt8) (most : Int) : Int :=
  match Lib.parseUintB 62 s with
  | .ok u => if Lib.decDigits u = s ∧ (u : Int) ≤ most then u else -1
  | _ => -1
def a1_number.f (a0 : ByteArray) (a1 : Int) : Option Int := if a0.size ≤ 281474976710656 then some (numberF a0.data.toList a1) else none
set_option maxHeartbeats 1600000 in
theorem a1_number.calls (a0 : ByteArray) (a1 : Int) (r : Int) (w : World) (hL : Aside0 (Lq w)) (h : a1_number.f a0 a1 = some r) :
    Calls Tryd.prog 27 #[.string a0, .int .i64 a1] w fun e w' => e = .returned (.int .i64 r) ∧ Below w.heap.size w w' := by
  unfold a1_number.f at h
  by_cases hs : a0.size ≤ 281474976710656
  · rw [if_pos hs] at h
    obtain rfl := Option.some.inj h
    rcases hp : Lib.parseUintB 62 a0.data.toList with u | _ | _
    ·
      have hu := parseUintB_le 62 _ u hp
      have hu2 : u ≤ 4611686018427387903 := hu
      have c := Any.strconv_ParseUint_10_at62_ok Tryd.laysPu14 a0 (by omega) u hp w
      have c' : Calls Tryd.prog 36 #[.string a0, .int .i64 10, .int .i64 62] w fun e w' => e = .returned (.tuple #[.int .u64 u, .nilIface]) ∧ Below w.heap.size w w' := c.mono fun e w' ⟨he, hw⟩ => ⟨he, by
        rcases hw with rfl | rfl
        · exact Below.refl _ _
        · exact Lib.bytesWorld_below _ _ _⟩
      clear c
      have hv : numberF a0.data.toList a1 = if Lib.decDigits u = a0.data.toList ∧ (u : Int) ≤ a1 then (u : Int) else -1 := by unfold numberF; rw [hp]
      rw [hv]
      clear hv hp hu h
      by_cases c1 : Lib.decDigits u = a0.data.toList
      · have k1 : (Lib.decDigits u == a0.toList) = true := by rw [ByteArray.toList_eq, c1]; exact beq_self_eq_true _
        by_cases c2 : (u : Int) ≤ a1
        · rw [if_pos ⟨c1, c2⟩]
          clear c1
          go_enter Tryd.func27, Tryd.ntmps27
          go_wp2_with fail
          refine c'.mono ?_
          rintro e W1 ⟨rfl, hb⟩
          go_wp2_with fail
          refine (FormatUint_10 u (by omega) W1 ⟨hL.out.below hb⟩).mono ?_
          rintro e W2 ⟨rfl, hb2⟩
          go_wp2_with fail
          go_ret
          exact ⟨rfl, hb.trans (hb2.mono hb.size)⟩
        · rw [if_neg (fun h => c2 h.2)]
          have c3 : a1 < (u : Int) := by omega
          clear c1 c2
          go_enter Tryd.func27, Tryd.ntmps27
          go_wp2_with fail
          refine c'.mono ?_
          rintro e W1 ⟨rfl, hb⟩
          go_wp2_with fail
          refine (FormatUint_10 u (by omega) W1 ⟨hL.out.below hb⟩).mono ?_
          rintro e W2 ⟨rfl, hb2⟩
          go_wp2_with fail
          go_ret
          exact ⟨rfl, hb.trans (hb2.mono hb.size)⟩
      · have k1 : (Lib.decDigits u == a0.toList) = false := by
          rw [ByteArray.toList_eq]
          exact beq_eq_false_iff_ne.2 c1
        rw [if_neg (fun h => c1 h.1)]
        clear c1
        go_enter Tryd.func27, Tryd.ntmps27
        go_wp2_with fail
        refine c'.mono ?_
        rintro e W1 ⟨rfl, hb⟩
        go_wp2_with fail
        refine (FormatUint_10 u (by omega) W1 ⟨hL.out.below hb⟩).mono ?_
        rintro e W2 ⟨rfl, hb2⟩
        go_wp2_with fail
        go_ret
        exact ⟨rfl, hb.trans (hb2.mono hb.size)⟩
    ·
      obtain ⟨tp, p, he⟩ := hL.out.e0
      have c := Any.strconv_ParseUint_10_at62_syntax Tryd.laysPu14 a0 hs hp (.iface tp p) w he (.inr ⟨tp, p, rfl⟩)
      have hv : numberF a0.data.toList a1 = -1 := by unfold numberF; rw [hp]
      rw [hv]
      clear hv hp h he
      go_enter Tryd.func27, Tryd.ntmps27
      go_wp2_with fail
      refine c.mono ?_
      rintro e W1 ⟨M, rfl, hM, hcell, hb⟩
      clear hcell
      go_wp2_with fail
      go_ret
      exact ⟨rfl, hb⟩
    ·
      obtain ⟨tp, p, he⟩ := hL.out.e1
      have c := Any.strconv_ParseUint_10_at62_range Tryd.laysPu14 a0 hs hp (.iface tp p) w he (.inr ⟨tp, p, rfl⟩)
      have hv : numberF a0.data.toList a1 = -1 := by unfold numberF; rw [hp]
      rw [hv]
      clear hv hp h he
      go_enter Tryd.func27, Tryd.ntmps27
      go_wp2_with fail
      refine c.mono ?_
      rintro e W1 ⟨M, rfl, hM, hcell, hb⟩
      clear hcell
      go_wp2_with fail
      go_ret
      exact ⟨rfl, hb⟩
  · rw [if_neg hs] at h; cases h
end Go.Proofs.YtpabggjnkoehfaaDoor.Ext
end
section
namespace Go.Proofs.YtpabggjnkoehfaaDoor
open Go.RowKit Go.Proofs.YtpabggjnkoehfaaDoor.Ext
theorem star_error : "*" ++ "errors.errorString" = "*errors.errorString" := by decide
theorem row117 (u : TypeId) (h : Tryd.prog.typeName? 3 u = some "*errors.errorString") : u = 117 :=
  typeName_ptr_named (nm := "errors.errorString") (by rw [star_error]; kernel_rfl) (by kernel_rfl) (by decide) u (by rw [star_error]; exact h)
theorem lq_of {W : World} {r3 r4 r5 : List (String × DataW Unit)} (hs : W.ShapedOpen Tryd.prog)
    (h3 : laidMet Tryd.prog (("internal/strconv.uint64pow10", Rows.laid_internal_strconv_uint64pow10) :: r3) W)
    (h4 : laidMet Tryd.prog (("strconv.ErrSyntax", Rows.laid_strconv_ErrSyntax) :: r4) W)
    (h5 : laidMet Tryd.prog (("strconv.ErrRange", Rows.laid_strconv_ErrRange) :: r5) W) : Lq W := by
  have htab : Lib.TabIs Tryd.prog W "internal/strconv.uint64pow10" .u64 Lib.pow10Tab :=
    Lib.tabIs_of_head (g := 1) (t := 88) (e := 57) (n := 20) (by kernel_rfl) (by kernel_rfl) Tryd.underlying88 Tryd.underlying57 (by kernel_rfl) (by kernel_rfl) h3
  obtain ⟨a4, s4, hv4, _⟩ := laid_sentinel (g := 4) (ti := 59) h4 (by kernel_rfl) (by kernel_rfl) Tryd.underlying59 row117 Tryd.underlying117 Tryd.underlying119 rfl rfl Tryd.underlying9 (by kernel_rfl) (by kernel_rfl)
  obtain ⟨a5, s5, hv5, _⟩ := laid_sentinel (g := 5) (ti := 59) h5 (by kernel_rfl) (by kernel_rfl) Tryd.underlying59 row117 Tryd.underlying117 Tryd.underlying119 rfl rfl Tryd.underlying9 (by kernel_rfl) (by kernel_rfl)
  exact ⟨Tryd.laysM145.s1_3 W hs, htab, ⟨_, _, (World.var?_cell (show Tryd.prog.globalNamed "strconv.ErrSyntax" = some 4 by kernel_rfl) hv4 0).trans rfl⟩,
    ⟨_, _, (World.var?_cell (show Tryd.prog.globalNamed "strconv.ErrRange" = some 5 by kernel_rfl) hv5 0).trans rfl⟩⟩
theorem handed_laid {H : Type} {enc : TypeId × Value → H} {a : Assume} {C : Checked} {os : Os} {f : FuncId} {fn : Func} {s : ChangeSpec} {conds : List PathCond} {apart fresh handsOn again : Bool} {X : World → Array Value → Prop}
    (hX : ∀ (w w' : World) (args : Array Value), w.heap = w'.heap → X w args → X w' args)
    (own : ownKnob C.prog.godebug = none) (started : os.Started) (noInit : C.prog.inits.idxOf? f = none) (hfn : C.prog.funcs[f]? = some fn)
    (witness : ∃ (w : World) (tape : Tape) (i : Input), w.os = os ∧ (w.forCall tape i).Shaped C.prog ∧ i.vars = [] ∧ Input.okWide C.prog (w.forCall tape i) .any w.heap.size f i ∧
      ((s.pre enc C.prog fn conds apart (w.forCall tape i).memory i.args ∧ X (w.forCall tape i).memory i.args) ∧ sizedMet enc C.prog fn (OpenSpec.ofChange s) apart (w.forCall tape i).memory i.args) ∧ a.holds C.prog (lone (Frame.enter C.prog f i.args .normal) [] (w.forCall tape i)))
    (contract : ∀ (W : World) (base : Nat) (args : Array Value) (ds gs : List (DataW H)) (before : List MemPlace),
      (∀ (j : Nat) t v, fn.params[j]? = some t → args[j]? = some v → Value.okWide C.prog W .any base t v) →
      DataW.Whole enc C.prog fn.params.toList s.vars apart W args.toList ds gs before →
      (DataW.weightsEach C.prog (fn.params.toList ++ s.plain.varTypes C.prog) (ds ++ gs)).all (· ≤ reachBytes) = true → X W args → W.ShapedOpen C.prog →
      Calls C.prog f args W fun e W' => ∃ v, e = .returned v ∧ s.post enc C.prog fn apart fresh handsOn again W args v W') :
    ReturnsInHanded a C os f .any (fun w args => (s.pre enc C.prog fn conds apart w args ∧ X w args) ∧ sizedMet enc C.prog fn (OpenSpec.ofChange s) apart w args) (s.post enc C.prog fn apart fresh handsOn again) := by
  refine returnsInHanded_of_calls own started noInit witness ?_
  intro w tape i _ hsh _ hok hpre _
  obtain ⟨_, _, _, fn', hfn', _, _, _, _, hval⟩ := hok
  have e : fn' = fn := Option.some.inj (hfn'.symm.trans hfn)
  subst e
  obtain ⟨⟨⟨ds, gs, before, hw, _⟩, hx⟩, hz⟩ := hpre
  refine (contract (w.forCall tape i) w.heap.size i.args ds gs before hval (DataW.Whole.of_heap (w' := w.forCall tape i) (by rfl) hw) (hz.weights hw) (hX _ _ _ (by rfl) hx) hsh).mono fun e W' ⟨v, he, hp⟩ => ?_
  subst he
  exact ChangeSpec.post_blind hp
end Go.Proofs.YtpabggjnkoehfaaDoor
end
section
namespace Go.Proofs.YtpabggjnkoehfaaDoor.EFxA
open Go.RowKit  Go.Proofs.YtpabggjnkoehfaaDoorW.PrintWords Go.Proofs.YtpabggjnkoehfaaDoorW.PrintLast Go.Proofs.YtpabggjnkoehfaaDoorW.PrintMore
attribute [local go_sem] max2_int min2_int max_two min_two max_three min_three max_four min_four   
set_option linter.unusedVariables false
set_option linter.unusedSimpArgs false
def errW : Option Int → Value
  | none => .nilIface
  | some c => .iface 0 (.int .i64 c)
theorem errW_none : errW none = .nilIface := rfl
theorem errW_some (c : Int) : errW (some c) = .iface 0 (.int .i64 c) := rfl
end Go.Proofs.YtpabggjnkoehfaaDoor.EFxA
end
section
namespace Go.Proofs.YtpabggjnkoehfaaDoor.EFxA
open Go.RowKit  Go.Proofs.YtpabggjnkoehfaaDoorW.PrintWords Go.Proofs.YtpabggjnkoehfaaDoorW.PrintLast Go.Proofs.YtpabggjnkoehfaaDoorW.PrintMore
attribute [local go_sem] max2_int min2_int max_two min_two max_three min_three max_four min_four   
set_option linter.unusedVariables false
set_option linter.unusedSimpArgs false
def fixnum_plain.l0 : Nat → ByteArray → Int → Int → Option (Bool)
 | 0, _, _, _ => none
 | k + 1, x0, x5, x6 => if x6 < x5 then (if 0 ≤ x6 then (if x6 < (x0.size : Int) then (if (bt x0 x6) < 48 then (some false) else (if (bt x0 x6) > 57 then (some false) else (fixnum_plain.l0 k x0 x5 (wrap64 (x6 + 1))))) else (none)) else (none)) else (some (x0.toList != ([] : List UInt8)))
def fixnum_plain.f (k : Nat) (a0 : ByteArray) : Option (Bool) := fixnum_plain.l0 k a0 (a0.size : Int) 0
set_option maxHeartbeats 8000000 in
set_option maxRecDepth 100000 in
theorem fixnum_plain.calls (k : Nat) (a0 : ByteArray) (r : Bool) (w : World) (h : fixnum_plain.f k a0 = some r) :
  Calls Tryd.prog 77 #[.string a0] w fun e w' => e = .returned (.bool r) ∧ Drawn0 w w' := by
 have H : (fixnum_plain.l0 k a0 (a0.size : Int) 0) = some r := h
 clear h
 have H' := Aside0.mk H
 clear H
 go_enter Tryd.func77, Tryd.ntmps77
 go_wp2
 go_loopg [6] k (fun kq v6 w' => ∃ (x6_1 : Int), v6 = .int .i64 x6_1 ∧ Aside0 (fixnum_plain.l0 kq a0 (a0.size : Int) x6_1 = some r) ∧ Aside0 (kq ≤ k) ∧ Drawn0 w w')
 case atStart => exact ⟨(0), (by first | rfl | (simp; done) | (simp [*]; done)), H', ⟨Nat.le_refl _⟩, by repeat (first | exact Drawn0.refl _ | apply Drawn0.step)⟩
 case round =>
  clear H'
  obtain ⟨x6_1, rfl, HA, HK1, ⟨m1, rfl⟩⟩ := hrel
  cases gk with
  | zero => exact absurd HA.out (by simp [fixnum_plain.l0])
  | succ k1 =>
   have H := HA.out
   clear HA
   simp only [fixnum_plain.l0] at H
   by_cases c2 : x6_1 < (a0.size : Int)
   ·rw [if_pos c2] at H
    have c2b0 : decide (x6_1 < (a0.size : Int)) = true := decide_eq_true c2
    clear c2
    by_cases c3 : 0 ≤ x6_1
    ·rw [if_pos c3] at H
     have c3b0 : decide (0 ≤ x6_1) = true := decide_eq_true c3
     clear c3
     by_cases c4 : x6_1 < (a0.size : Int)
     ·rw [if_pos c4] at H
      have c4b0 : decide (x6_1 < (a0.size : Int)) = true := decide_eq_true c4
      clear c4
      by_cases c6 : (bt a0 x6_1) < 48
      ·rw [if_pos c6] at H
       have c6b0 : decide ((bt a0 x6_1) < 48) = true := decide_eq_true c6
       clear c6
       obtain rfl := Option.some.inj H
       have p5 : 0 ≤ (x6_1 : Int) := of_decide_eq_true (by first | (with_reducible assumption) | assumption)
       have q5 : x6_1 < (a0.size : Int) := of_decide_eq_true (by first | (with_reducible assumption) | assumption)
       have hx5 := bt_at a0 x6_1
       replace p5 := eq_true p5
       replace q5 := eq_true q5
       try (have q5z := q5; simp only [ByteArray.size_extract, Nat.min_self] at q5z)
       go_wp2
       go_ret
       exact ⟨by first | rfl | (simp; done) | (simp [*]; done) | (simp; generalize ByteArray.toList _ = l_; cases l_ <;> rfl), by repeat (first | exact Drawn0.refl _ | apply Drawn0.step)⟩
      ·rw [if_neg c6] at H
       have c6b0 : decide ((bt a0 x6_1) < 48) = false := decide_eq_false c6
       clear c6
       by_cases c8 : (bt a0 x6_1) > 57
       ·rw [if_pos c8] at H
        have c8b0 : decide (57 < (bt a0 x6_1)) = true := decide_eq_true c8
        clear c8
        obtain rfl := Option.some.inj H
        have p5 : 0 ≤ (x6_1 : Int) := of_decide_eq_true (by first | (with_reducible assumption) | assumption)
        have q5 : x6_1 < (a0.size : Int) := of_decide_eq_true (by first | (with_reducible assumption) | assumption)
        have hx5 := bt_at a0 x6_1
        replace p5 := eq_true p5
        replace q5 := eq_true q5
        try (have q5z := q5; simp only [ByteArray.size_extract, Nat.min_self] at q5z)
        have p7 : 0 ≤ (x6_1 : Int) := of_decide_eq_true (by first | (with_reducible assumption) | assumption)
        have q7 : x6_1 < (a0.size : Int) := of_decide_eq_true (by first | (with_reducible assumption) | assumption)
        have hx7 := bt_at a0 x6_1
        replace p7 := eq_true p7
        replace q7 := eq_true q7
        try (have q7z := q7; simp only [ByteArray.size_extract, Nat.min_self] at q7z)
        go_wp2
        go_ret
        exact ⟨by first | rfl | (simp; done) | (simp [*]; done) | (simp; generalize ByteArray.toList _ = l_; cases l_ <;> rfl), by repeat (first | exact Drawn0.refl _ | apply Drawn0.step)⟩
       ·rw [if_neg c8] at H
        have c8b0 : decide (57 < (bt a0 x6_1)) = false := decide_eq_false c8
        clear c8
        have H' := Aside0.mk H
        clear H
        have p5 : 0 ≤ (x6_1 : Int) := of_decide_eq_true (by first | (with_reducible assumption) | assumption)
        have q5 : x6_1 < (a0.size : Int) := of_decide_eq_true (by first | (with_reducible assumption) | assumption)
        have hx5 := bt_at a0 x6_1
        replace p5 := eq_true p5
        replace q5 := eq_true q5
        try (have q5z := q5; simp only [ByteArray.size_extract, Nat.min_self] at q5z)
        have p7 : 0 ≤ (x6_1 : Int) := of_decide_eq_true (by first | (with_reducible assumption) | assumption)
        have q7 : x6_1 < (a0.size : Int) := of_decide_eq_true (by first | (with_reducible assumption) | assumption)
        have hx7 := bt_at a0 x6_1
        replace p7 := eq_true p7
        replace q7 := eq_true q7
        try (have q7z := q7; simp only [ByteArray.size_extract, Nat.min_self] at q7z)
        go_wp2
        go_roundg k1
        case measure => have := HK1.out; omega
        case rel => exact ⟨(wrap64 (x6_1 + 1)), (by first | rfl | (simp; done) | (simp [*]; done)), H', ⟨by have := HK1.out; omega⟩, by repeat (first | exact Drawn0.refl _ | apply Drawn0.step)⟩
     ·rw [if_neg c4] at H
      exact absurd H (by simp)
    ·rw [if_neg c3] at H
     exact absurd H (by simp)
   ·rw [if_neg c2] at H
    have c2b0 : decide (x6_1 < (a0.size : Int)) = false := decide_eq_false c2
    clear c2
    obtain rfl := Option.some.inj H
    go_wp2
    go_ret
    exact ⟨by first | rfl | (simp; done) | (simp [*]; done) | (simp; generalize ByteArray.toList _ = l_; cases l_ <;> rfl), by repeat (first | exact Drawn0.refl _ | apply Drawn0.step)⟩
def stringslite_HasPrefix.f (a0 : ByteArray) (a1 : ByteArray) : Option (Bool) := if (a0.size : Int) ≥ (a1.size : Int) then (if 0 ≤ (a1.size : Int) then (if (a1.size : Int) ≤ (a0.size : Int) then (some ((a0.extract 0 ((a1.size : Int) : Int).toNat).toList == a1.toList)) else (none)) else (none)) else (some false)
set_option maxHeartbeats 8000000 in
set_option maxRecDepth 100000 in
theorem stringslite_HasPrefix.calls (a0 : ByteArray) (a1 : ByteArray) (r : Bool) (w : World) (h : stringslite_HasPrefix.f a0 a1 = some r) :
  Calls Tryd.prog 59 #[.string a0, .string a1] w fun e w' => e = .returned (.bool r) ∧ Drawn0 w w' := by
 have H : (if (a0.size : Int) ≥ (a1.size : Int) then (if 0 ≤ (a1.size : Int) then (if (a1.size : Int) ≤ (a0.size : Int) then (some ((a0.extract 0 ((a1.size : Int) : Int).toNat).toList == a1.toList)) else (none)) else (none)) else (some false)) = some r := h
 clear h
 by_cases c3 : (a0.size : Int) ≥ (a1.size : Int)
 ·rw [if_pos c3] at H
  have c3b0 : decide ((a1.size : Int) ≤ (a0.size : Int)) = true := decide_eq_true c3
  have c3b1 : decide (a1.size ≤ a0.size) = true := decide_eq_true (Int.ofNat_le.mp c3)
  clear c3
  by_cases c4 : 0 ≤ (a1.size : Int)
  ·rw [if_pos c4] at H
   have c4b0 := eq_true c4
   have c4b1 : decide (0 ≤ (a1.size : Int)) = true := decide_eq_true c4
   clear c4
   by_cases c5 : (a1.size : Int) ≤ (a0.size : Int)
   ·rw [if_pos c5] at H
    have c5b0 := eq_true c5
    have c5b1 : decide ((a1.size : Int) ≤ (a0.size : Int)) = true := decide_eq_true c5
    clear c5
    obtain rfl := Option.some.inj H
    go_enter Tryd.func59, Tryd.ntmps59
    go_wp2
    go_ret
    exact ⟨by first | rfl | (simp; done) | (simp [*]; done) | (simp; generalize ByteArray.toList _ = l_; cases l_ <;> rfl), by repeat (first | exact Drawn0.refl _ | apply Drawn0.step)⟩
   ·rw [if_neg c5] at H
    exact absurd H (by simp)
  ·rw [if_neg c4] at H
   exact absurd H (by simp)
 ·rw [if_neg c3] at H
  have c3b0 : decide ((a1.size : Int) ≤ (a0.size : Int)) = false := decide_eq_false c3
  have c3b1 : decide (a1.size ≤ a0.size) = false := decide_eq_false (fun h => c3 (Int.ofNat_le.mpr h))
  clear c3
  obtain rfl := Option.some.inj H
  go_enter Tryd.func59, Tryd.ntmps59
  go_wp2
  go_ret
  exact ⟨by first | rfl | (simp; done) | (simp [*]; done) | (simp; generalize ByteArray.toList _ = l_; cases l_ <;> rfl), by repeat (first | exact Drawn0.refl _ | apply Drawn0.step)⟩
def stringslite_CutPrefix.f (a0 : ByteArray) (a1 : ByteArray) : Option (ByteArray × Bool) := (stringslite_HasPrefix.f a0 a1).bind fun t101 => (if t101 = true then (if 0 ≤ (a1.size : Int) then (if (a1.size : Int) ≤ (a0.size : Int) then (some (a0.extract ((a1.size : Int) : Int).toNat a0.size, true)) else (none)) else (none)) else (some (a0, false)))
set_option maxHeartbeats 8000000 in
set_option maxRecDepth 100000 in
theorem stringslite_CutPrefix.calls (a0 : ByteArray) (a1 : ByteArray) (r1 : ByteArray) (r2 : Bool) (w : World) (h : stringslite_CutPrefix.f a0 a1 = some (r1, r2)) :
  Calls Tryd.prog 47 #[.string a0, .string a1] w fun e w' => e = .returned (.tuple #[.string r1, .bool r2]) ∧ Drawn0 w w' := by
 have H : ((stringslite_HasPrefix.f a0 a1).bind fun t101 => (if t101 = true then (if 0 ≤ (a1.size : Int) then (if (a1.size : Int) ≤ (a0.size : Int) then (some (a0.extract ((a1.size : Int) : Int).toNat a0.size, true)) else (none)) else (none)) else (some (a0, false)))) = some (r1, r2) := h
 clear h
 replace H := Option.bind_eq_some_iff.mp H
 obtain ⟨t101, A30, H⟩ := H
 replace H : (if t101 = true then (if 0 ≤ (a1.size : Int) then (if (a1.size : Int) ≤ (a0.size : Int) then (some (a0.extract ((a1.size : Int) : Int).toNat a0.size, true)) else (none)) else (none)) else (some (a0, false))) = some (r1, r2) := H
 have A3 := Aside0.mk A30
 clear A30
 by_cases c4 : t101 = true
 ·subst c4
  have H1 : (if 0 ≤ (a1.size : Int) then (if (a1.size : Int) ≤ (a0.size : Int) then (some (a0.extract ((a1.size : Int) : Int).toNat a0.size, true)) else (none)) else (none)) = some (r1, r2) := by rw [if_pos rfl] at H; exact H
  clear H
  have H := H1
  clear H1
  by_cases c5 : 0 ≤ (a1.size : Int)
  ·rw [if_pos c5] at H
   have c5b0 := eq_true c5
   have c5b1 : decide (0 ≤ (a1.size : Int)) = true := decide_eq_true c5
   clear c5
   by_cases c6 : (a1.size : Int) ≤ (a0.size : Int)
   ·rw [if_pos c6] at H
    have c6b0 := eq_true c6
    have c6b1 : decide ((a1.size : Int) ≤ (a0.size : Int)) = true := decide_eq_true c6
    clear c6
    simp only [Option.some.injEq, Prod.mk.injEq] at H
    obtain ⟨rfl, rfl⟩ := H
    go_enter Tryd.func47, Tryd.ntmps47
    go_wp2_with (first | ((with_reducible refine gate_callee (f := 59) rfl ?_); refine goesL_ (some 8) rfl rfl Tryd.func59 (by kernel_rfl) rfl #[.string a0, .string a1] rfl (by (try simp only [List.map_toArray, List.map_cons, List.map_nil]); first | done | rfl | (simp only [List.length_drop, List.length_take]; rfl)) ?_; (with_reducible refine (stringslite_HasPrefix.calls a0 a1 true _ A3.out).mono ?_); rintro e w' ⟨rfl, ⟨nd, rfl⟩⟩; refine ⟨_, rfl, ?_⟩))
    go_ret2
    exact ⟨by first | rfl | (simp; done) | (simp [*]; done) | (simp; generalize ByteArray.toList _ = l_; cases l_ <;> rfl), by repeat (first | exact Drawn0.refl _ | apply Drawn0.step)⟩
   ·rw [if_neg c6] at H
    exact absurd H (by simp)
  ·rw [if_neg c5] at H
   exact absurd H (by simp)
 ·replace c4 := Bool.eq_false_iff.mpr c4
  subst c4
  have H1 : (some (a0, false)) = some (r1, r2) := by rw [if_neg (show ¬ (false = true) by decide)] at H; exact H
  clear H
  have H := H1
  clear H1
  simp only [Option.some.injEq, Prod.mk.injEq] at H
  obtain ⟨rfl, rfl⟩ := H
  go_enter Tryd.func47, Tryd.ntmps47
  go_wp2_with (first | ((with_reducible refine gate_callee (f := 59) rfl ?_); refine goesL_ (some 8) rfl rfl Tryd.func59 (by kernel_rfl) rfl #[.string a0, .string a1] rfl (by (try simp only [List.map_toArray, List.map_cons, List.map_nil]); first | done | rfl | (simp only [List.length_drop, List.length_take]; rfl)) ?_; (with_reducible refine (stringslite_HasPrefix.calls a0 a1 false _ A3.out).mono ?_); rintro e w' ⟨rfl, ⟨nd, rfl⟩⟩; refine ⟨_, rfl, ?_⟩))
  go_ret2
  exact ⟨by first | rfl | (simp; done) | (simp [*]; done) | (simp; generalize ByteArray.toList _ = l_; cases l_ <;> rfl), by repeat (first | exact Drawn0.refl _ | apply Drawn0.step)⟩
def strings_CutPrefix.f (a0 : ByteArray) (a1 : ByteArray) : Option (ByteArray × Bool) := (stringslite_CutPrefix.f a0 a1).bind fun bt102 => (some (bt102.1, bt102.2))
set_option maxHeartbeats 8000000 in
set_option maxRecDepth 100000 in
theorem strings_CutPrefix.calls (a0 : ByteArray) (a1 : ByteArray) (r1 : ByteArray) (r2 : Bool) (w : World) (h : strings_CutPrefix.f a0 a1 = some (r1, r2)) :
  Calls Tryd.prog 35 #[.string a0, .string a1] w fun e w' => e = .returned (.tuple #[.string r1, .bool r2]) ∧ Drawn0 w w' := by
 have H : ((stringslite_CutPrefix.f a0 a1).bind fun bt102 => (some (bt102.1, bt102.2))) = some (r1, r2) := h
 clear h
 replace H := Option.bind_eq_some_iff.mp H
 obtain ⟨⟨t102, t103⟩, A30, H⟩ := H
 replace H : (some (t102, t103)) = some (r1, r2) := H
 have A3 := Aside0.mk A30
 clear A30
 simp only [Option.some.injEq, Prod.mk.injEq] at H
 obtain ⟨rfl, rfl⟩ := H
 go_enter Tryd.func35, Tryd.ntmps35
 go_wp2_with (first | ((with_reducible refine gate_callee (f := 47) rfl ?_); refine goesL_ (some 8) rfl rfl Tryd.func47 (by kernel_rfl) rfl #[.string a0, .string a1] rfl (by (try simp only [List.map_toArray, List.map_cons, List.map_nil]); first | done | rfl | (simp only [List.length_drop, List.length_take]; rfl)) ?_; (with_reducible refine (stringslite_CutPrefix.calls a0 a1 t102 t103 _ A3.out).mono ?_); rintro e w' ⟨rfl, ⟨nd, rfl⟩⟩; refine ⟨_, rfl, ?_⟩))
 go_ret2
 exact ⟨by first | rfl | (simp; done) | (simp [*]; done) | (simp; generalize ByteArray.toList _ = l_; cases l_ <;> rfl), by repeat (first | exact Drawn0.refl _ | apply Drawn0.step)⟩
mutual
def fixnum_signed.j0 : Nat → Int → Bool → Bool → Option (Int × Bool)
 | 0, _, _, _ => none
 | k + 1, x0, x1, x6 => if x6 = true then (fixnum_signed.j1 k x0 x1 x6) else (if x1 = true then (fixnum_signed.j1 k x0 x1 (decide (x0 > 9223372036854775808))) else (fixnum_signed.j1 k x0 x1 false))
def fixnum_signed.j1 : Nat → Int → Bool → Bool → Option (Int × Bool)
 | 0, _, _, _ => none
 | k + 1, x0, x1, x6 => if x6 = true then (some (0, false)) else (if x1 = true then (some (wrap64 (IntKind.u64.wrap (-x0)), true)) else (some (wrap64 (x0), true)))
end
def fixnum_signed.f (k : Nat) (a0 : Int) (a1 : Bool) : Option (Int × Bool) := if a1 = true then (fixnum_signed.j0 k a0 a1 false) else (fixnum_signed.j0 k a0 a1 (decide (a0 > 9223372036854775807)))
set_option maxHeartbeats 8000000 in
set_option maxRecDepth 100000 in
theorem fixnum_signed.calls (k : Nat) (a0 : Int) (a1 : Bool) (r1 : Int) (r2 : Bool) (w : World) (h : fixnum_signed.f k a0 a1 = some (r1, r2)) :
  Calls Tryd.prog 79 #[.int .u64 a0, .bool a1] w fun e w' => e = .returned (.tuple #[.int .i64 r1, .bool r2]) ∧ Drawn0 w w' := by
 have H : (if a1 = true then (fixnum_signed.j0 k a0 a1 false) else (fixnum_signed.j0 k a0 a1 (decide (a0 > 9223372036854775807)))) = some (r1, r2) := h
 clear h
 have HC3 := Aside0.mk H
 clear H
 go_enter Tryd.func79, Tryd.ntmps79
 go_upto_region 1 with (fail)
 go_cut [6] (fun v6 wc => ∃ (kq : Nat) (x6_2 : Bool), v6 = .bool x6_2 ∧ Aside0 (fixnum_signed.j0 kq a0 a1 x6_2 = some (r1, r2)) ∧ Aside0 (kq ≤ k) ∧ Drawn0 w wc)
 case first =>
  have H := HC3.out
  clear HC3
  by_cases c4 : a1 = true
  ·subst c4
   have H1 : (fixnum_signed.j0 k a0 true false) = some (r1, r2) := by rw [if_pos rfl] at H; exact H
   clear H
   have H := H1
   clear H1
   have H' := Aside0.mk H
   clear H
   go_wp2
   go_meet
   case rel => exact ⟨_, (false), (by first | rfl | (simp; done) | (simp [*]; done)), H', ⟨by first | omega | exact Nat.le_refl _⟩, by repeat (first | exact Drawn0.refl _ | apply Drawn0.step)⟩
  ·replace c4 := Bool.eq_false_iff.mpr c4
   subst c4
   have H1 : (fixnum_signed.j0 k a0 false (decide (a0 > 9223372036854775807))) = some (r1, r2) := by rw [if_neg (show ¬ (false = true) by decide)] at H; exact H
   clear H
   have H := H1
   clear H1
   have H' := Aside0.mk H
   clear H
   go_wp2
   go_meet
   case rel => exact ⟨_, (decide (a0 > 9223372036854775807)), (by first | rfl | (simp; done) | (simp [*]; done)), H', ⟨by first | omega | exact Nat.le_refl _⟩, by repeat (first | exact Drawn0.refl _ | apply Drawn0.step)⟩
 case rest =>
  clear HC3
  try clear p2
  try clear c4
  obtain ⟨kq, x6_2, rfl, HA, HJ2, ⟨mc2, rfl⟩⟩ := hcut
  cases kq with
  | zero => exact absurd HA.out (by simp [fixnum_signed.j0])
  | succ kj2 =>
   have H := HA.out
   clear HA
   simp only [fixnum_signed.j0] at H
   have HC5 := Aside0.mk H
   clear H
   go_upto_if 6 with (fail)
   go_cut [6] (fun v6 wc => ∃ (kq : Nat) (x6_4 : Bool), v6 = .bool x6_4 ∧ Aside0 (fixnum_signed.j1 kq a0 a1 x6_4 = some (r1, r2)) ∧ Aside0 (kq ≤ kj2) ∧ Drawn0 w wc)
   case first =>
    have H := HC5.out
    clear HC5
    by_cases c6 : x6_2 = true
    ·subst c6
     have H1 : (fixnum_signed.j1 kj2 a0 a1 true) = some (r1, r2) := by rw [if_pos rfl] at H; exact H
     clear H
     have H := H1
     clear H1
     have H' := Aside0.mk H
     clear H
     go_wp2
     go_meet
     case rel => exact ⟨_, (true), (by first | rfl | (simp; done) | (simp [*]; done)), H', ⟨by have := HJ2.out; first | omega | exact Nat.le_refl _⟩, by repeat (first | exact Drawn0.refl _ | apply Drawn0.step)⟩
    ·replace c6 := Bool.eq_false_iff.mpr c6
     subst c6
     have H1 : (if a1 = true then (fixnum_signed.j1 kj2 a0 a1 (decide (a0 > 9223372036854775808))) else (fixnum_signed.j1 kj2 a0 a1 false)) = some (r1, r2) := by rw [if_neg (show ¬ (false = true) by decide)] at H; exact H
     clear H
     have H := H1
     clear H1
     by_cases c7 : a1 = true
     ·subst c7
      have H1 : (fixnum_signed.j1 kj2 a0 true (decide (a0 > 9223372036854775808))) = some (r1, r2) := by rw [if_pos rfl] at H; exact H
      clear H
      have H := H1
      clear H1
      have H' := Aside0.mk H
      clear H
      go_wp2
      go_meet
      case rel => exact ⟨_, (decide (a0 > 9223372036854775808)), (by first | rfl | (simp; done) | (simp [*]; done)), H', ⟨by have := HJ2.out; first | omega | exact Nat.le_refl _⟩, by repeat (first | exact Drawn0.refl _ | apply Drawn0.step)⟩
     ·replace c7 := Bool.eq_false_iff.mpr c7
      subst c7
      have H1 : (fixnum_signed.j1 kj2 a0 false false) = some (r1, r2) := by rw [if_neg (show ¬ (false = true) by decide)] at H; exact H
      clear H
      have H := H1
      clear H1
      have H' := Aside0.mk H
      clear H
      go_wp2
      go_meet
      case rel => exact ⟨_, (false), (by first | rfl | (simp; done) | (simp [*]; done)), H', ⟨by have := HJ2.out; first | omega | exact Nat.le_refl _⟩, by repeat (first | exact Drawn0.refl _ | apply Drawn0.step)⟩
   case rest =>
    clear HC5
    try clear c2
    try clear p2
    try clear c4
    try clear c6
    try clear c7
    try clear p2
    obtain ⟨kq, x6_4, rfl, HA, HJ4, ⟨mc4, rfl⟩⟩ := hcut
    cases kq with
    | zero => exact absurd HA.out (by simp [fixnum_signed.j1])
    | succ kj4 =>
     have H := HA.out
     clear HA
     simp only [fixnum_signed.j1] at H
     by_cases c8 : x6_4 = true
     ·subst c8
      have H1 : (some (0, false)) = some (r1, r2) := by rw [if_pos rfl] at H; exact H
      clear H
      have H := H1
      clear H1
      simp only [Option.some.injEq, Prod.mk.injEq] at H
      obtain ⟨rfl, rfl⟩ := H
      go_wp2
      go_ret2
      exact ⟨by first | rfl | (simp; done) | (simp [*]; done) | (simp; generalize ByteArray.toList _ = l_; cases l_ <;> rfl), by repeat (first | exact Drawn0.refl _ | apply Drawn0.step)⟩
     ·replace c8 := Bool.eq_false_iff.mpr c8
      subst c8
      have H1 : (if a1 = true then (some (wrap64 (IntKind.u64.wrap (-a0)), true)) else (some (wrap64 (a0), true))) = some (r1, r2) := by rw [if_neg (show ¬ (false = true) by decide)] at H; exact H
      clear H
      have H := H1
      clear H1
      by_cases c9 : a1 = true
      ·subst c9
       have H1 : (some (wrap64 (IntKind.u64.wrap (-a0)), true)) = some (r1, r2) := by rw [if_pos rfl] at H; exact H
       clear H
       have H := H1
       clear H1
       simp only [Option.some.injEq, Prod.mk.injEq] at H
       obtain ⟨rfl, rfl⟩ := H
       go_wp2
       go_ret2
       exact ⟨by first | rfl | (simp; done) | (simp [*]; done) | (simp; generalize ByteArray.toList _ = l_; cases l_ <;> rfl), by repeat (first | exact Drawn0.refl _ | apply Drawn0.step)⟩
      ·replace c9 := Bool.eq_false_iff.mpr c9
       subst c9
       have H1 : (some (wrap64 (a0), true)) = some (r1, r2) := by rw [if_neg (show ¬ (false = true) by decide)] at H; exact H
       clear H
       have H := H1
       clear H1
       simp only [Option.some.injEq, Prod.mk.injEq] at H
       obtain ⟨rfl, rfl⟩ := H
       go_wp2
       go_ret2
       exact ⟨by first | rfl | (simp; done) | (simp [*]; done) | (simp; generalize ByteArray.toList _ = l_; cases l_ <;> rfl), by repeat (first | exact Drawn0.refl _ | apply Drawn0.step)⟩
end Go.Proofs.YtpabggjnkoehfaaDoor.EFxA
end
section
namespace Go.Proofs.YtpabggjnkoehfaaDoor.Ext
open Go.Shelf Go.RowKit Go.Sort Go.Lib Go.Proofs.YtpabggjnkoehfaaDoorW.PrintWords Go.Proofs.YtpabggjnkoehfaaDoorW.PrintLast Go.Proofs.YtpabggjnkoehfaaDoorW.PrintMore Go.Proofs.YtpabggjnkoehfaaDoor.EFxA
attribute [local go_sem] max2_int min2_int max_two min_two max_three min_three max_four min_four
set_option linter.unusedVariables false
set_option linter.unusedSimpArgs false
def isOk : Lib.NumEnd Nat → Option Nat
 | .ok u => some u
 | _ => none
theorem pu_ok (big : ByteArray) (u : Nat) (hs : big.size ≤ 1000000) (h : isOk (Lib.parseUintB 64 big.data.toList) = some u) (w : World) :
  Calls Tryd.prog 36 #[.string big, .int .i64 10, .int .i64 64] w fun e w' => e = .returned (.tuple #[.int .u64 (u : Int), .nilIface]) ∧ Below w.heap.size w w' := by
 rcases hp : Lib.parseUintB 64 big.data.toList with v | _ | _
 ·
  rw [hp] at h
  obtain rfl : v = u := Option.some.inj h
  exact (Tryd.strconv_ParseUint_10_at64_ok big (by omega) v hp w).mono fun e w' ⟨he, hw⟩ => ⟨he, by
   rcases hw with rfl | rfl
   ·exact Below.refl _ _
   ·exact Lib.bytesWorld_below _ _ _⟩
 ·rw [hp] at h; cases h
 ·rw [hp] at h; cases h
theorem pu_no (big : ByteArray) (hs : big.size ≤ 1000000) (h : isOk (Lib.parseUintB 64 big.data.toList) = none) (w : World) (hL : Aside0 (Lq w)) :
  Calls Tryd.prog 36 #[.string big, .int .i64 10, .int .i64 64] w fun e w' => ∃ (V : Int) (M : Nat), e = .returned (.tuple #[.int .u64 V, .iface 84 (.pointer (some ⟨M, 0, none⟩))]) ∧ Below w.heap.size w w' := by
 rcases hp : Lib.parseUintB 64 big.data.toList with v | _ | _
 ·rw [hp] at h; cases h
 ·
  obtain ⟨tp, p, he⟩ := hL.out.e0
  exact (Tryd.strconv_ParseUint_10_at64_syntax big (by omega) hp (.iface tp p) w he (.inr ⟨tp, p, rfl⟩)).mono fun e w' ⟨N, h1, _, _, h2⟩ => ⟨_, N, h1, h2⟩
 ·
  obtain ⟨tp, p, he⟩ := hL.out.e1
  exact (Tryd.strconv_ParseUint_10_at64_range big (by omega) hp (.iface tp p) w he (.inr ⟨tp, p, rfl⟩)).mono fun e w' ⟨N, h1, _, _, h2⟩ => ⟨_, N, h1, h2⟩
theorem rep_calls (c : Nat) (hc : c ≤ 4) (w : World) : Calls Tryd.prog 78 #[.string ⟨#[48]⟩, .int .i64 (c : Int)] w fun e w' => e = .returned (.string ⟨(Lib.repeatL [48] c).toArray⟩) ∧ Below w.heap.size w w' :=
 Tryd.strings_Repeat ⟨#[48]⟩ c w (by omega) (by show 1 * c ≤ _; omega)
theorem rep_size (c : Nat) (hc : c ≤ 4) : (⟨(Lib.repeatL [48] c).toArray⟩ : ByteArray).size ≤ 4 := by
 match c, hc with
 | 0, _ => decide
 | 1, _ => decide
 | 2, _ => decide
 | 3, _ => decide
 | 4, _ => decide
def parseTail (wd part : ByteArray) (neg : Bool) : Option (Int × Bool) :=
 match isOk (Lib.parseUintB 64 (wd ++ part ++ ⟨(Lib.repeatL [48] (4 - part.size)).toArray⟩).data.toList) with
 | some u => fixnum_signed.f 3 (u : Int) neg
 | none => some (0, false)
def fixnum_Parse.f (a0 : ByteArray) : Option (Int × Bool) :=
 if a0.size ≤ 100000 then
  (strings_CutPrefix.f a0 ⟨#[45]⟩).bind fun c => (strings_Cut.f c.1 ⟨#[46]⟩).bind fun d => (fixnum_plain.f (a0.size + 2) d.1).bind fun p =>
   if p = false then some (0, false) else if 1 < d.1.size ∧ bt d.1 0 = 48 then some (0, false) else if 16 < d.1.size then some (0, false)
   else if d.2.2 = true then (fixnum_plain.f (a0.size + 2) d.2.1).bind fun p2 => if p2 = false then some (0, false) else if 4 < d.2.1.size then some (0, false) else parseTail d.1 d.2.1 c.2
   else if d.2.1.size = 0 then parseTail d.1 d.2.1 c.2 else none
 else none
set_option maxHeartbeats 4000000 in
set_option maxRecDepth 100000 in
theorem fixnum_Parse.calls (a0 : ByteArray) (r1 : Int) (r2 : Bool) (w : World) (hL : Aside0 (Lq w)) (h : fixnum_Parse.f a0 = some (r1, r2)) :
  Calls Tryd.prog 57 #[.string a0] w fun e w' => e = .returned (.tuple #[.int .i64 r1, .bool r2]) ∧ Below w.heap.size w w' := by
 have HB := Aside0.mk (Below.refl w.heap.size w)
 unfold fixnum_Parse.f at h
 by_cases h0 : a0.size ≤ 100000
 ·rw [if_pos h0] at h
  have H := Option.bind_eq_some_iff.mp h
  clear h
  obtain ⟨⟨s1, neg⟩, A10, H⟩ := H
  have A1 := Aside0.mk A10
  clear A10
  replace H := Option.bind_eq_some_iff.mp H
  obtain ⟨⟨wd, part, point⟩, A20, H⟩ := H
  have A2 := Aside0.mk A20
  clear A20
  replace H := Option.bind_eq_some_iff.mp H
  obtain ⟨p, A30, H⟩ := H
  have A3 := Aside0.mk A30
  clear A30
  dsimp only at H A3
  by_cases g1 : p = false
  ·subst g1
   rw [if_pos rfl] at H
   simp only [Option.some.injEq, Prod.mk.injEq] at H
   obtain ⟨rfl, rfl⟩ := H
   go_enter Tryd.func57, Tryd.ntmps57
   go_wp2_with (first
    | ((with_reducible refine gate_callee (f := 35) rfl ?_); refine goesL_ (some 12) rfl rfl Tryd.func35 (by kernel_rfl) rfl #[.string a0, .string ⟨#[45]⟩] rfl (by (try simp only [List.map_toArray, List.map_cons, List.map_nil]); first | done | rfl) ?_; (refine (strings_CutPrefix.calls a0 ⟨#[45]⟩ s1 neg _ A1.out).mono ?_); rintro e w1 ⟨rfl, ⟨nd, rfl⟩⟩; refine ⟨_, rfl, ?_⟩)
    | ((with_reducible refine gate_callee (f := 25) rfl ?_); refine goesL_ (some 17) rfl rfl Tryd.func25 (by kernel_rfl) rfl #[.string s1, .string ⟨#[46]⟩] rfl (by (try simp only [List.map_toArray, List.map_cons, List.map_nil]); first | done | rfl) ?_; (refine (strings_Cut.calls s1 ⟨#[46]⟩ wd part _ _ (hL := ⟨hL.out.below (by repeat (first | (with_reducible first | exact HB.out | apply below_alloc | apply pw_below_drewN | apply below_drew1) | exact HB.out))⟩) A2.out).mono ?_); rintro e w1 ⟨rfl, ⟨nd, rfl⟩⟩; refine ⟨_, rfl, ?_⟩)
    | ((with_reducible refine gate_callee (f := 77) rfl ?_); refine goesL_ (some 22) rfl rfl Tryd.func77 (by kernel_rfl) rfl #[.string wd] rfl (by (try simp only [List.map_toArray, List.map_cons, List.map_nil]); first | done | rfl) ?_; (refine (fixnum_plain.calls (a0.size + 2) wd _ _ A3.out).mono ?_); rintro e w1 ⟨rfl, ⟨nd, rfl⟩⟩; refine ⟨_, rfl, ?_⟩))
   go_ret2
   exact ⟨by first | rfl | (simp; done) | (simp [*]; done), (by repeat (first | (with_reducible first | exact HB.out | apply below_alloc | apply pw_below_drewN | apply below_drew1) | exact HB.out))⟩
  ·obtain rfl : p = true := by cases p with | true => rfl | false => exact absurd rfl g1
   rw [if_neg (by decide)] at H
   by_cases g2 : 1 < wd.size ∧ bt wd 0 = 48
   ·rw [if_pos g2] at H
    simp only [Option.some.injEq, Prod.mk.injEq] at H
    obtain ⟨rfl, rfl⟩ := H
    have y1 : decide (1 < (wd.size : Int)) = true := decide_eq_true (by omega)
    have y2 : (0 < wd.size) = True := eq_true (by omega)
    have y2' : (0 < (wd.size : Int)) = True := eq_true (by omega)
    have y4 : ∀ h : 0 < wd.size, ((wd[0]'h).toNat : Int) = 48 := fun h => (bt_at wd 0 h).trans g2.2
    clear g2
    go_enter Tryd.func57, Tryd.ntmps57
    go_wp2_with (first
     | ((with_reducible refine gate_callee (f := 35) rfl ?_); refine goesL_ (some 12) rfl rfl Tryd.func35 (by kernel_rfl) rfl #[.string a0, .string ⟨#[45]⟩] rfl (by (try simp only [List.map_toArray, List.map_cons, List.map_nil]); first | done | rfl) ?_; (refine (strings_CutPrefix.calls a0 ⟨#[45]⟩ s1 neg _ A1.out).mono ?_); rintro e w1 ⟨rfl, ⟨nd, rfl⟩⟩; refine ⟨_, rfl, ?_⟩)
     | ((with_reducible refine gate_callee (f := 25) rfl ?_); refine goesL_ (some 17) rfl rfl Tryd.func25 (by kernel_rfl) rfl #[.string s1, .string ⟨#[46]⟩] rfl (by (try simp only [List.map_toArray, List.map_cons, List.map_nil]); first | done | rfl) ?_; (refine (strings_Cut.calls s1 ⟨#[46]⟩ wd part _ _ (hL := ⟨hL.out.below (by repeat (first | (with_reducible first | exact HB.out | apply below_alloc | apply pw_below_drewN | apply below_drew1) | exact HB.out))⟩) A2.out).mono ?_); rintro e w1 ⟨rfl, ⟨nd, rfl⟩⟩; refine ⟨_, rfl, ?_⟩)
     | ((with_reducible refine gate_callee (f := 77) rfl ?_); refine goesL_ (some 22) rfl rfl Tryd.func77 (by kernel_rfl) rfl #[.string wd] rfl (by (try simp only [List.map_toArray, List.map_cons, List.map_nil]); first | done | rfl) ?_; (refine (fixnum_plain.calls (a0.size + 2) wd _ _ A3.out).mono ?_); rintro e w1 ⟨rfl, ⟨nd, rfl⟩⟩; refine ⟨_, rfl, ?_⟩))
    go_ret2
    exact ⟨by first | rfl | (simp; done) | (simp [*]; done), (by repeat (first | (with_reducible first | exact HB.out | apply below_alloc | apply pw_below_drewN | apply below_drew1) | exact HB.out))⟩
   ·rw [if_neg g2] at H
    have hk : 1 < wd.size → (bt wd 0 == 48) = false := fun h => beq_eq_false_iff_ne.mpr (fun e => g2 ⟨h, e⟩)
    by_cases g3 : 16 < wd.size
    ·rw [if_pos g3] at H
     simp only [Option.some.injEq, Prod.mk.injEq] at H
     obtain ⟨rfl, rfl⟩ := H
     have y1 : decide (1 < (wd.size : Int)) = true := decide_eq_true (by omega)
     have y2 : (0 < wd.size) = True := eq_true (by omega)
     have y2' : (0 < (wd.size : Int)) = True := eq_true (by omega)
     have y3 := hk (by omega)
     have y4 : ∀ h : 0 < wd.size, ((wd[0]'h).toNat : Int) = bt wd 0 := fun h => bt_at wd 0 h
     have y5 : decide (16 < (wd.size : Int)) = true := decide_eq_true (by omega)
     clear g2 g3 hk
     go_enter Tryd.func57, Tryd.ntmps57
     go_wp2_with (first
      | ((with_reducible refine gate_callee (f := 35) rfl ?_); refine goesL_ (some 12) rfl rfl Tryd.func35 (by kernel_rfl) rfl #[.string a0, .string ⟨#[45]⟩] rfl (by (try simp only [List.map_toArray, List.map_cons, List.map_nil]); first | done | rfl) ?_; (refine (strings_CutPrefix.calls a0 ⟨#[45]⟩ s1 neg _ A1.out).mono ?_); rintro e w1 ⟨rfl, ⟨nd, rfl⟩⟩; refine ⟨_, rfl, ?_⟩)
      | ((with_reducible refine gate_callee (f := 25) rfl ?_); refine goesL_ (some 17) rfl rfl Tryd.func25 (by kernel_rfl) rfl #[.string s1, .string ⟨#[46]⟩] rfl (by (try simp only [List.map_toArray, List.map_cons, List.map_nil]); first | done | rfl) ?_; (refine (strings_Cut.calls s1 ⟨#[46]⟩ wd part _ _ (hL := ⟨hL.out.below (by repeat (first | (with_reducible first | exact HB.out | apply below_alloc | apply pw_below_drewN | apply below_drew1) | exact HB.out))⟩) A2.out).mono ?_); rintro e w1 ⟨rfl, ⟨nd, rfl⟩⟩; refine ⟨_, rfl, ?_⟩)
      | ((with_reducible refine gate_callee (f := 77) rfl ?_); refine goesL_ (some 22) rfl rfl Tryd.func77 (by kernel_rfl) rfl #[.string wd] rfl (by (try simp only [List.map_toArray, List.map_cons, List.map_nil]); first | done | rfl) ?_; (refine (fixnum_plain.calls (a0.size + 2) wd _ _ A3.out).mono ?_); rintro e w1 ⟨rfl, ⟨nd, rfl⟩⟩; refine ⟨_, rfl, ?_⟩))
     go_ret2
     exact ⟨by first | rfl | (simp; done) | (simp [*]; done), (by repeat (first | (with_reducible first | exact HB.out | apply below_alloc | apply pw_below_drewN | apply below_drew1) | exact HB.out))⟩
    ·rw [if_neg g3] at H
     have y5 : decide (16 < (wd.size : Int)) = false := decide_eq_false (by omega)
     by_cases g4 : 1 < wd.size
     ·have y1 : decide (1 < (wd.size : Int)) = true := decide_eq_true (by omega)
      have y2 : (0 < wd.size) = True := eq_true (by omega)
      have y2' : (0 < (wd.size : Int)) = True := eq_true (by omega)
      have y3 := hk (by omega)
      have y4 : ∀ h : 0 < wd.size, ((wd[0]'h).toNat : Int) = bt wd 0 := fun h => bt_at wd 0 h
      clear g2 hk
      cases point with
      | true =>
       rw [if_pos rfl] at H
       replace H := Option.bind_eq_some_iff.mp H
       obtain ⟨p2, A40, H⟩ := H
       have A4 := Aside0.mk A40
       clear A40
       by_cases g5 : p2 = false
       ·subst g5
        rw [if_pos rfl] at H
        simp only [Option.some.injEq, Prod.mk.injEq] at H
        obtain ⟨rfl, rfl⟩ := H
        go_enter Tryd.func57, Tryd.ntmps57
        go_wp2_with (first
         | ((with_reducible refine gate_callee (f := 35) rfl ?_); refine goesL_ (some 12) rfl rfl Tryd.func35 (by kernel_rfl) rfl #[.string a0, .string ⟨#[45]⟩] rfl (by (try simp only [List.map_toArray, List.map_cons, List.map_nil]); first | done | rfl) ?_; (refine (strings_CutPrefix.calls a0 ⟨#[45]⟩ s1 neg _ A1.out).mono ?_); rintro e w1 ⟨rfl, ⟨nd, rfl⟩⟩; refine ⟨_, rfl, ?_⟩)
         | ((with_reducible refine gate_callee (f := 25) rfl ?_); refine goesL_ (some 17) rfl rfl Tryd.func25 (by kernel_rfl) rfl #[.string s1, .string ⟨#[46]⟩] rfl (by (try simp only [List.map_toArray, List.map_cons, List.map_nil]); first | done | rfl) ?_; (refine (strings_Cut.calls s1 ⟨#[46]⟩ wd part _ _ (hL := ⟨hL.out.below (by repeat (first | (with_reducible first | exact HB.out | apply below_alloc | apply pw_below_drewN | apply below_drew1) | exact HB.out))⟩) A2.out).mono ?_); rintro e w1 ⟨rfl, ⟨nd, rfl⟩⟩; refine ⟨_, rfl, ?_⟩)
         | ((with_reducible refine gate_callee (f := 77) rfl ?_); refine goesL_ (some 22) rfl rfl Tryd.func77 (by kernel_rfl) rfl #[.string wd] rfl (by (try simp only [List.map_toArray, List.map_cons, List.map_nil]); first | done | rfl) ?_; (refine (fixnum_plain.calls (a0.size + 2) wd _ _ A3.out).mono ?_); rintro e w1 ⟨rfl, ⟨nd, rfl⟩⟩; refine ⟨_, rfl, ?_⟩)
         | ((with_reducible refine gate_callee (f := 77) rfl ?_); (try (refine gate_guard (by rfl) ?_; dsimp only)); refine goesL_ (some 43) rfl rfl Tryd.func77 (by kernel_rfl) rfl #[.string part] rfl (by (try simp only [List.map_toArray, List.map_cons, List.map_nil]); first | done | rfl) ?_; (refine (fixnum_plain.calls (a0.size + 2) part _ _ A4.out).mono ?_); rintro e w1 ⟨rfl, ⟨nd, rfl⟩⟩; refine ⟨_, rfl, ?_⟩))
        go_ret2
        exact ⟨by first | rfl | (simp; done) | (simp [*]; done), (by repeat (first | (with_reducible first | exact HB.out | apply below_alloc | apply pw_below_drewN | apply below_drew1) | exact HB.out))⟩
       ·obtain rfl : p2 = true := by cases p2 with | true => rfl | false => exact absurd rfl g5
        rw [if_neg (by decide)] at H
        by_cases g6 : 4 < part.size
        ·rw [if_pos g6] at H
         simp only [Option.some.injEq, Prod.mk.injEq] at H
         obtain ⟨rfl, rfl⟩ := H
         have y6 : decide (4 < (part.size : Int)) = true := decide_eq_true (by omega)
         go_enter Tryd.func57, Tryd.ntmps57
         go_wp2_with (first
          | ((with_reducible refine gate_callee (f := 35) rfl ?_); refine goesL_ (some 12) rfl rfl Tryd.func35 (by kernel_rfl) rfl #[.string a0, .string ⟨#[45]⟩] rfl (by (try simp only [List.map_toArray, List.map_cons, List.map_nil]); first | done | rfl) ?_; (refine (strings_CutPrefix.calls a0 ⟨#[45]⟩ s1 neg _ A1.out).mono ?_); rintro e w1 ⟨rfl, ⟨nd, rfl⟩⟩; refine ⟨_, rfl, ?_⟩)
          | ((with_reducible refine gate_callee (f := 25) rfl ?_); refine goesL_ (some 17) rfl rfl Tryd.func25 (by kernel_rfl) rfl #[.string s1, .string ⟨#[46]⟩] rfl (by (try simp only [List.map_toArray, List.map_cons, List.map_nil]); first | done | rfl) ?_; (refine (strings_Cut.calls s1 ⟨#[46]⟩ wd part _ _ (hL := ⟨hL.out.below (by repeat (first | (with_reducible first | exact HB.out | apply below_alloc | apply pw_below_drewN | apply below_drew1) | exact HB.out))⟩) A2.out).mono ?_); rintro e w1 ⟨rfl, ⟨nd, rfl⟩⟩; refine ⟨_, rfl, ?_⟩)
          | ((with_reducible refine gate_callee (f := 77) rfl ?_); refine goesL_ (some 22) rfl rfl Tryd.func77 (by kernel_rfl) rfl #[.string wd] rfl (by (try simp only [List.map_toArray, List.map_cons, List.map_nil]); first | done | rfl) ?_; (refine (fixnum_plain.calls (a0.size + 2) wd _ _ A3.out).mono ?_); rintro e w1 ⟨rfl, ⟨nd, rfl⟩⟩; refine ⟨_, rfl, ?_⟩)
          | ((with_reducible refine gate_callee (f := 77) rfl ?_); (try (refine gate_guard (by rfl) ?_; dsimp only)); refine goesL_ (some 43) rfl rfl Tryd.func77 (by kernel_rfl) rfl #[.string part] rfl (by (try simp only [List.map_toArray, List.map_cons, List.map_nil]); first | done | rfl) ?_; (refine (fixnum_plain.calls (a0.size + 2) part _ _ A4.out).mono ?_); rintro e w1 ⟨rfl, ⟨nd, rfl⟩⟩; refine ⟨_, rfl, ?_⟩))
         go_ret2
         exact ⟨by first | rfl | (simp; done) | (simp [*]; done), (by repeat (first | (with_reducible first | exact HB.out | apply below_alloc | apply pw_below_drewN | apply below_drew1) | exact HB.out))⟩
        ·rw [if_neg g6] at H
         have y6 : decide (4 < (part.size : Int)) = false := decide_eq_false (by omega)
         unfold parseTail at H
         obtain ⟨c, hcc⟩ : ∃ c, 4 - part.size = c := ⟨_, rfl⟩
         rw [hcc] at H
         have hc : (4 : Int) - (part.size : Int) = (c : Int) := by omega
         have hrep := fun w => rep_calls c (by omega) w
         obtain ⟨rp, hrp, hrz⟩ : ∃ rp : ByteArray, (⟨(Lib.repeatL [48] c).toArray⟩ : ByteArray) = rp ∧ rp.size ≤ 4 := ⟨_, rfl, rep_size c (by omega)⟩
         rw [hrp] at H hrep
         obtain ⟨big, hbig⟩ : ∃ big : ByteArray, wd ++ part ++ rp = big := ⟨_, rfl⟩
         have hbs : big.size ≤ 1000000 := by rw [← hbig, ByteArray.size_append, ByteArray.size_append]; omega
         have z1 : (9223372036854775807 < wd.size + part.size) = False := eq_false (by omega)
         have z2 : (9223372036854775807 < wd.size + part.size + rp.size) = False := eq_false (by omega)
         have z3 : (9223372036854775807 < (wd ++ part).size + rp.size) = False := eq_false (by rw [ByteArray.size_append]; omega)
         rw [hbig] at H
         clear g6
         cases hpu : isOk (Lib.parseUintB 64 big.data.toList) with
         | some u =>
          rw [hpu] at H
          have A5 := Aside0.mk H
          clear H
          go_enter Tryd.func57, Tryd.ntmps57
          go_wp2_with (first
           | ((with_reducible refine gate_callee (f := 35) rfl ?_); refine goesL_ (some 12) rfl rfl Tryd.func35 (by kernel_rfl) rfl #[.string a0, .string ⟨#[45]⟩] rfl (by (try simp only [List.map_toArray, List.map_cons, List.map_nil]); first | done | rfl) ?_; (refine (strings_CutPrefix.calls a0 ⟨#[45]⟩ s1 neg _ A1.out).mono ?_); rintro e w1 ⟨rfl, ⟨nd, rfl⟩⟩; refine ⟨_, rfl, ?_⟩)
           | ((with_reducible refine gate_callee (f := 25) rfl ?_); refine goesL_ (some 17) rfl rfl Tryd.func25 (by kernel_rfl) rfl #[.string s1, .string ⟨#[46]⟩] rfl (by (try simp only [List.map_toArray, List.map_cons, List.map_nil]); first | done | rfl) ?_; (refine (strings_Cut.calls s1 ⟨#[46]⟩ wd part _ _ (hL := ⟨hL.out.below (by repeat (first | (with_reducible first | exact HB.out | apply below_alloc | apply pw_below_drewN | apply below_drew1) | exact HB.out))⟩) A2.out).mono ?_); rintro e w1 ⟨rfl, ⟨nd, rfl⟩⟩; refine ⟨_, rfl, ?_⟩)
           | ((with_reducible refine gate_callee (f := 77) rfl ?_); refine goesL_ (some 22) rfl rfl Tryd.func77 (by kernel_rfl) rfl #[.string wd] rfl (by (try simp only [List.map_toArray, List.map_cons, List.map_nil]); first | done | rfl) ?_; (refine (fixnum_plain.calls (a0.size + 2) wd _ _ A3.out).mono ?_); rintro e w1 ⟨rfl, ⟨nd, rfl⟩⟩; refine ⟨_, rfl, ?_⟩)
           | ((with_reducible refine gate_callee (f := 77) rfl ?_); (try (refine gate_guard (by rfl) ?_; dsimp only)); refine goesL_ (some 43) rfl rfl Tryd.func77 (by kernel_rfl) rfl #[.string part] rfl (by (try simp only [List.map_toArray, List.map_cons, List.map_nil]); first | done | rfl) ?_; (refine (fixnum_plain.calls (a0.size + 2) part _ _ A4.out).mono ?_); rintro e w1 ⟨rfl, ⟨nd, rfl⟩⟩; refine ⟨_, rfl, ?_⟩)
           | ((with_reducible refine gate_callee (f := 78) rfl ?_); refine goesL_ (some 59) rfl rfl Tryd.func78 (by kernel_rfl) rfl #[.string ⟨#[48]⟩, .int .i64 (c : Int)] rfl (by (try simp only [List.map_toArray, List.map_cons, List.map_nil]); first | done | rfl) ?_; (refine (hrep _).mono ?_); rintro e w2 ⟨rfl, hb⟩; refine ⟨_, rfl, ?_⟩; have n1_ := Aside0.mk (below_step (by repeat (first | (with_reducible first | exact HB.out | apply below_alloc | apply pw_below_drewN | apply below_drew1) | exact HB.out)) hb); clear HB; have HB := n1_; clear n1_; clear hb)
           | ((with_reducible refine gate_callee (f := 36) rfl ?_); refine goesL_ (some 61) rfl rfl Tryd.func36 (by kernel_rfl) rfl #[.string big, .int .i64 10, .int .i64 64] rfl (by (try simp only [List.map_toArray, List.map_cons, List.map_nil]); first | done | rfl) ?_; (refine (pu_ok big u hbs hpu _).mono ?_); rintro e w3 ⟨rfl, hb⟩; refine ⟨_, rfl, ?_⟩; have n1_ := Aside0.mk (below_step (by repeat (first | (with_reducible first | exact HB.out | apply below_alloc | apply pw_below_drewN | apply below_drew1) | exact HB.out)) hb); clear HB; have HB := n1_; clear n1_; clear hb)
           | ((with_reducible refine gate_callee (f := 79) rfl ?_); refine goesL_ (some 68) rfl rfl Tryd.func79 (by kernel_rfl) rfl #[.int .u64 (u : Int), .bool neg] rfl (by (try simp only [List.map_toArray, List.map_cons, List.map_nil]); first | done | rfl) ?_; (refine (fixnum_signed.calls 3 (u : Int) neg _ _ _ A5.out).mono ?_); rintro e w1 ⟨rfl, ⟨nd, rfl⟩⟩; refine ⟨_, rfl, ?_⟩))
          go_ret2
          exact ⟨by first | rfl | (simp; done) | (simp [*]; done), (by repeat (first | (with_reducible first | exact HB.out | apply below_alloc | apply pw_below_drewN | apply below_drew1) | exact HB.out))⟩
         | none =>
          rw [hpu] at H
          simp only [Option.some.injEq, Prod.mk.injEq] at H
          obtain ⟨rfl, rfl⟩ := H
          go_enter Tryd.func57, Tryd.ntmps57
          go_wp2_with (first
           | ((with_reducible refine gate_callee (f := 35) rfl ?_); refine goesL_ (some 12) rfl rfl Tryd.func35 (by kernel_rfl) rfl #[.string a0, .string ⟨#[45]⟩] rfl (by (try simp only [List.map_toArray, List.map_cons, List.map_nil]); first | done | rfl) ?_; (refine (strings_CutPrefix.calls a0 ⟨#[45]⟩ s1 neg _ A1.out).mono ?_); rintro e w1 ⟨rfl, ⟨nd, rfl⟩⟩; refine ⟨_, rfl, ?_⟩)
           | ((with_reducible refine gate_callee (f := 25) rfl ?_); refine goesL_ (some 17) rfl rfl Tryd.func25 (by kernel_rfl) rfl #[.string s1, .string ⟨#[46]⟩] rfl (by (try simp only [List.map_toArray, List.map_cons, List.map_nil]); first | done | rfl) ?_; (refine (strings_Cut.calls s1 ⟨#[46]⟩ wd part _ _ (hL := ⟨hL.out.below (by repeat (first | (with_reducible first | exact HB.out | apply below_alloc | apply pw_below_drewN | apply below_drew1) | exact HB.out))⟩) A2.out).mono ?_); rintro e w1 ⟨rfl, ⟨nd, rfl⟩⟩; refine ⟨_, rfl, ?_⟩)
           | ((with_reducible refine gate_callee (f := 77) rfl ?_); refine goesL_ (some 22) rfl rfl Tryd.func77 (by kernel_rfl) rfl #[.string wd] rfl (by (try simp only [List.map_toArray, List.map_cons, List.map_nil]); first | done | rfl) ?_; (refine (fixnum_plain.calls (a0.size + 2) wd _ _ A3.out).mono ?_); rintro e w1 ⟨rfl, ⟨nd, rfl⟩⟩; refine ⟨_, rfl, ?_⟩)
           | ((with_reducible refine gate_callee (f := 77) rfl ?_); (try (refine gate_guard (by rfl) ?_; dsimp only)); refine goesL_ (some 43) rfl rfl Tryd.func77 (by kernel_rfl) rfl #[.string part] rfl (by (try simp only [List.map_toArray, List.map_cons, List.map_nil]); first | done | rfl) ?_; (refine (fixnum_plain.calls (a0.size + 2) part _ _ A4.out).mono ?_); rintro e w1 ⟨rfl, ⟨nd, rfl⟩⟩; refine ⟨_, rfl, ?_⟩)
           | ((with_reducible refine gate_callee (f := 78) rfl ?_); refine goesL_ (some 59) rfl rfl Tryd.func78 (by kernel_rfl) rfl #[.string ⟨#[48]⟩, .int .i64 (c : Int)] rfl (by (try simp only [List.map_toArray, List.map_cons, List.map_nil]); first | done | rfl) ?_; (refine (hrep _).mono ?_); rintro e w2 ⟨rfl, hb⟩; refine ⟨_, rfl, ?_⟩; have n1_ := Aside0.mk (below_step (by repeat (first | (with_reducible first | exact HB.out | apply below_alloc | apply pw_below_drewN | apply below_drew1) | exact HB.out)) hb); clear HB; have HB := n1_; clear n1_; clear hb)
           | ((with_reducible refine gate_callee (f := 36) rfl ?_); refine goesL_ (some 61) rfl rfl Tryd.func36 (by kernel_rfl) rfl #[.string big, .int .i64 10, .int .i64 64] rfl (by (try simp only [List.map_toArray, List.map_cons, List.map_nil]); first | done | rfl) ?_; (refine (pu_no big hbs hpu _ (⟨hL.out.below (by repeat (first | (with_reducible first | exact HB.out | apply below_alloc | apply pw_below_drewN | apply below_drew1) | exact HB.out))⟩)).mono ?_); rintro e w3 ⟨V, M, rfl, hb⟩; refine ⟨_, rfl, ?_⟩; have n1_ := Aside0.mk (below_step (by repeat (first | (with_reducible first | exact HB.out | apply below_alloc | apply pw_below_drewN | apply below_drew1) | exact HB.out)) hb); clear HB; have HB := n1_; clear n1_; clear hb))
          go_ret2
          exact ⟨by first | rfl | (simp; done) | (simp [*]; done), (by repeat (first | (with_reducible first | exact HB.out | apply below_alloc | apply pw_below_drewN | apply below_drew1) | exact HB.out))⟩
      | false =>
       rw [if_neg (by decide)] at H
       by_cases g6 : part.size = 0
       ·rw [if_pos g6] at H
        unfold parseTail at H
        obtain ⟨c, hcc⟩ : ∃ c, 4 - part.size = c := ⟨_, rfl⟩
        rw [hcc] at H
        have hc : (4 : Int) - (part.size : Int) = (c : Int) := by omega
        have hrep := fun w => rep_calls c (by omega) w
        obtain ⟨rp, hrp, hrz⟩ : ∃ rp : ByteArray, (⟨(Lib.repeatL [48] c).toArray⟩ : ByteArray) = rp ∧ rp.size ≤ 4 := ⟨_, rfl, rep_size c (by omega)⟩
        rw [hrp] at H hrep
        obtain ⟨big, hbig⟩ : ∃ big : ByteArray, wd ++ part ++ rp = big := ⟨_, rfl⟩
        have hbs : big.size ≤ 1000000 := by rw [← hbig, ByteArray.size_append, ByteArray.size_append]; omega
        have z1 : (9223372036854775807 < wd.size + part.size) = False := eq_false (by omega)
        have z2 : (9223372036854775807 < wd.size + part.size + rp.size) = False := eq_false (by omega)
        have z3 : (9223372036854775807 < (wd ++ part).size + rp.size) = False := eq_false (by rw [ByteArray.size_append]; omega)
        rw [hbig] at H
        clear g6
        cases hpu : isOk (Lib.parseUintB 64 big.data.toList) with
        | some u =>
         rw [hpu] at H
         have A5 := Aside0.mk H
         clear H
         go_enter Tryd.func57, Tryd.ntmps57
         go_wp2_with (first
          | ((with_reducible refine gate_callee (f := 35) rfl ?_); refine goesL_ (some 12) rfl rfl Tryd.func35 (by kernel_rfl) rfl #[.string a0, .string ⟨#[45]⟩] rfl (by (try simp only [List.map_toArray, List.map_cons, List.map_nil]); first | done | rfl) ?_; (refine (strings_CutPrefix.calls a0 ⟨#[45]⟩ s1 neg _ A1.out).mono ?_); rintro e w1 ⟨rfl, ⟨nd, rfl⟩⟩; refine ⟨_, rfl, ?_⟩)
          | ((with_reducible refine gate_callee (f := 25) rfl ?_); refine goesL_ (some 17) rfl rfl Tryd.func25 (by kernel_rfl) rfl #[.string s1, .string ⟨#[46]⟩] rfl (by (try simp only [List.map_toArray, List.map_cons, List.map_nil]); first | done | rfl) ?_; (refine (strings_Cut.calls s1 ⟨#[46]⟩ wd part _ _ (hL := ⟨hL.out.below (by repeat (first | (with_reducible first | exact HB.out | apply below_alloc | apply pw_below_drewN | apply below_drew1) | exact HB.out))⟩) A2.out).mono ?_); rintro e w1 ⟨rfl, ⟨nd, rfl⟩⟩; refine ⟨_, rfl, ?_⟩)
          | ((with_reducible refine gate_callee (f := 77) rfl ?_); refine goesL_ (some 22) rfl rfl Tryd.func77 (by kernel_rfl) rfl #[.string wd] rfl (by (try simp only [List.map_toArray, List.map_cons, List.map_nil]); first | done | rfl) ?_; (refine (fixnum_plain.calls (a0.size + 2) wd _ _ A3.out).mono ?_); rintro e w1 ⟨rfl, ⟨nd, rfl⟩⟩; refine ⟨_, rfl, ?_⟩)
          | ((with_reducible refine gate_callee (f := 78) rfl ?_); refine goesL_ (some 59) rfl rfl Tryd.func78 (by kernel_rfl) rfl #[.string ⟨#[48]⟩, .int .i64 (c : Int)] rfl (by (try simp only [List.map_toArray, List.map_cons, List.map_nil]); first | done | rfl) ?_; (refine (hrep _).mono ?_); rintro e w2 ⟨rfl, hb⟩; refine ⟨_, rfl, ?_⟩; have n1_ := Aside0.mk (below_step (by repeat (first | (with_reducible first | exact HB.out | apply below_alloc | apply pw_below_drewN | apply below_drew1) | exact HB.out)) hb); clear HB; have HB := n1_; clear n1_; clear hb)
          | ((with_reducible refine gate_callee (f := 36) rfl ?_); refine goesL_ (some 61) rfl rfl Tryd.func36 (by kernel_rfl) rfl #[.string big, .int .i64 10, .int .i64 64] rfl (by (try simp only [List.map_toArray, List.map_cons, List.map_nil]); first | done | rfl) ?_; (refine (pu_ok big u hbs hpu _).mono ?_); rintro e w3 ⟨rfl, hb⟩; refine ⟨_, rfl, ?_⟩; have n1_ := Aside0.mk (below_step (by repeat (first | (with_reducible first | exact HB.out | apply below_alloc | apply pw_below_drewN | apply below_drew1) | exact HB.out)) hb); clear HB; have HB := n1_; clear n1_; clear hb)
          | ((with_reducible refine gate_callee (f := 79) rfl ?_); refine goesL_ (some 68) rfl rfl Tryd.func79 (by kernel_rfl) rfl #[.int .u64 (u : Int), .bool neg] rfl (by (try simp only [List.map_toArray, List.map_cons, List.map_nil]); first | done | rfl) ?_; (refine (fixnum_signed.calls 3 (u : Int) neg _ _ _ A5.out).mono ?_); rintro e w1 ⟨rfl, ⟨nd, rfl⟩⟩; refine ⟨_, rfl, ?_⟩))
         go_ret2
         exact ⟨by first | rfl | (simp; done) | (simp [*]; done), (by repeat (first | (with_reducible first | exact HB.out | apply below_alloc | apply pw_below_drewN | apply below_drew1) | exact HB.out))⟩
        | none =>
         rw [hpu] at H
         simp only [Option.some.injEq, Prod.mk.injEq] at H
         obtain ⟨rfl, rfl⟩ := H
         go_enter Tryd.func57, Tryd.ntmps57
         go_wp2_with (first
          | ((with_reducible refine gate_callee (f := 35) rfl ?_); refine goesL_ (some 12) rfl rfl Tryd.func35 (by kernel_rfl) rfl #[.string a0, .string ⟨#[45]⟩] rfl (by (try simp only [List.map_toArray, List.map_cons, List.map_nil]); first | done | rfl) ?_; (refine (strings_CutPrefix.calls a0 ⟨#[45]⟩ s1 neg _ A1.out).mono ?_); rintro e w1 ⟨rfl, ⟨nd, rfl⟩⟩; refine ⟨_, rfl, ?_⟩)
          | ((with_reducible refine gate_callee (f := 25) rfl ?_); refine goesL_ (some 17) rfl rfl Tryd.func25 (by kernel_rfl) rfl #[.string s1, .string ⟨#[46]⟩] rfl (by (try simp only [List.map_toArray, List.map_cons, List.map_nil]); first | done | rfl) ?_; (refine (strings_Cut.calls s1 ⟨#[46]⟩ wd part _ _ (hL := ⟨hL.out.below (by repeat (first | (with_reducible first | exact HB.out | apply below_alloc | apply pw_below_drewN | apply below_drew1) | exact HB.out))⟩) A2.out).mono ?_); rintro e w1 ⟨rfl, ⟨nd, rfl⟩⟩; refine ⟨_, rfl, ?_⟩)
          | ((with_reducible refine gate_callee (f := 77) rfl ?_); refine goesL_ (some 22) rfl rfl Tryd.func77 (by kernel_rfl) rfl #[.string wd] rfl (by (try simp only [List.map_toArray, List.map_cons, List.map_nil]); first | done | rfl) ?_; (refine (fixnum_plain.calls (a0.size + 2) wd _ _ A3.out).mono ?_); rintro e w1 ⟨rfl, ⟨nd, rfl⟩⟩; refine ⟨_, rfl, ?_⟩)
          | ((with_reducible refine gate_callee (f := 78) rfl ?_); refine goesL_ (some 59) rfl rfl Tryd.func78 (by kernel_rfl) rfl #[.string ⟨#[48]⟩, .int .i64 (c : Int)] rfl (by (try simp only [List.map_toArray, List.map_cons, List.map_nil]); first | done | rfl) ?_; (refine (hrep _).mono ?_); rintro e w2 ⟨rfl, hb⟩; refine ⟨_, rfl, ?_⟩; have n1_ := Aside0.mk (below_step (by repeat (first | (with_reducible first | exact HB.out | apply below_alloc | apply pw_below_drewN | apply below_drew1) | exact HB.out)) hb); clear HB; have HB := n1_; clear n1_; clear hb)
          | ((with_reducible refine gate_callee (f := 36) rfl ?_); refine goesL_ (some 61) rfl rfl Tryd.func36 (by kernel_rfl) rfl #[.string big, .int .i64 10, .int .i64 64] rfl (by (try simp only [List.map_toArray, List.map_cons, List.map_nil]); first | done | rfl) ?_; (refine (pu_no big hbs hpu _ (⟨hL.out.below (by repeat (first | (with_reducible first | exact HB.out | apply below_alloc | apply pw_below_drewN | apply below_drew1) | exact HB.out))⟩)).mono ?_); rintro e w3 ⟨V, M, rfl, hb⟩; refine ⟨_, rfl, ?_⟩; have n1_ := Aside0.mk (below_step (by repeat (first | (with_reducible first | exact HB.out | apply below_alloc | apply pw_below_drewN | apply below_drew1) | exact HB.out)) hb); clear HB; have HB := n1_; clear n1_; clear hb))
         go_ret2
         exact ⟨by first | rfl | (simp; done) | (simp [*]; done), (by repeat (first | (with_reducible first | exact HB.out | apply below_alloc | apply pw_below_drewN | apply below_drew1) | exact HB.out))⟩
       ·rw [if_neg g6] at H; cases H
     ·have y1 : decide (1 < (wd.size : Int)) = false := decide_eq_false (by omega)
      clear g2 hk
      cases point with
      | true =>
       rw [if_pos rfl] at H
       replace H := Option.bind_eq_some_iff.mp H
       obtain ⟨p2, A40, H⟩ := H
       have A4 := Aside0.mk A40
       clear A40
       by_cases g5 : p2 = false
       ·subst g5
        rw [if_pos rfl] at H
        simp only [Option.some.injEq, Prod.mk.injEq] at H
        obtain ⟨rfl, rfl⟩ := H
        go_enter Tryd.func57, Tryd.ntmps57
        go_wp2_with (first
         | ((with_reducible refine gate_callee (f := 35) rfl ?_); refine goesL_ (some 12) rfl rfl Tryd.func35 (by kernel_rfl) rfl #[.string a0, .string ⟨#[45]⟩] rfl (by (try simp only [List.map_toArray, List.map_cons, List.map_nil]); first | done | rfl) ?_; (refine (strings_CutPrefix.calls a0 ⟨#[45]⟩ s1 neg _ A1.out).mono ?_); rintro e w1 ⟨rfl, ⟨nd, rfl⟩⟩; refine ⟨_, rfl, ?_⟩)
         | ((with_reducible refine gate_callee (f := 25) rfl ?_); refine goesL_ (some 17) rfl rfl Tryd.func25 (by kernel_rfl) rfl #[.string s1, .string ⟨#[46]⟩] rfl (by (try simp only [List.map_toArray, List.map_cons, List.map_nil]); first | done | rfl) ?_; (refine (strings_Cut.calls s1 ⟨#[46]⟩ wd part _ _ (hL := ⟨hL.out.below (by repeat (first | (with_reducible first | exact HB.out | apply below_alloc | apply pw_below_drewN | apply below_drew1) | exact HB.out))⟩) A2.out).mono ?_); rintro e w1 ⟨rfl, ⟨nd, rfl⟩⟩; refine ⟨_, rfl, ?_⟩)
         | ((with_reducible refine gate_callee (f := 77) rfl ?_); refine goesL_ (some 22) rfl rfl Tryd.func77 (by kernel_rfl) rfl #[.string wd] rfl (by (try simp only [List.map_toArray, List.map_cons, List.map_nil]); first | done | rfl) ?_; (refine (fixnum_plain.calls (a0.size + 2) wd _ _ A3.out).mono ?_); rintro e w1 ⟨rfl, ⟨nd, rfl⟩⟩; refine ⟨_, rfl, ?_⟩)
         | ((with_reducible refine gate_callee (f := 77) rfl ?_); (try (refine gate_guard (by rfl) ?_; dsimp only)); refine goesL_ (some 43) rfl rfl Tryd.func77 (by kernel_rfl) rfl #[.string part] rfl (by (try simp only [List.map_toArray, List.map_cons, List.map_nil]); first | done | rfl) ?_; (refine (fixnum_plain.calls (a0.size + 2) part _ _ A4.out).mono ?_); rintro e w1 ⟨rfl, ⟨nd, rfl⟩⟩; refine ⟨_, rfl, ?_⟩))
        go_ret2
        exact ⟨by first | rfl | (simp; done) | (simp [*]; done), (by repeat (first | (with_reducible first | exact HB.out | apply below_alloc | apply pw_below_drewN | apply below_drew1) | exact HB.out))⟩
       ·obtain rfl : p2 = true := by cases p2 with | true => rfl | false => exact absurd rfl g5
        rw [if_neg (by decide)] at H
        by_cases g6 : 4 < part.size
        ·rw [if_pos g6] at H
         simp only [Option.some.injEq, Prod.mk.injEq] at H
         obtain ⟨rfl, rfl⟩ := H
         have y6 : decide (4 < (part.size : Int)) = true := decide_eq_true (by omega)
         go_enter Tryd.func57, Tryd.ntmps57
         go_wp2_with (first
          | ((with_reducible refine gate_callee (f := 35) rfl ?_); refine goesL_ (some 12) rfl rfl Tryd.func35 (by kernel_rfl) rfl #[.string a0, .string ⟨#[45]⟩] rfl (by (try simp only [List.map_toArray, List.map_cons, List.map_nil]); first | done | rfl) ?_; (refine (strings_CutPrefix.calls a0 ⟨#[45]⟩ s1 neg _ A1.out).mono ?_); rintro e w1 ⟨rfl, ⟨nd, rfl⟩⟩; refine ⟨_, rfl, ?_⟩)
          | ((with_reducible refine gate_callee (f := 25) rfl ?_); refine goesL_ (some 17) rfl rfl Tryd.func25 (by kernel_rfl) rfl #[.string s1, .string ⟨#[46]⟩] rfl (by (try simp only [List.map_toArray, List.map_cons, List.map_nil]); first | done | rfl) ?_; (refine (strings_Cut.calls s1 ⟨#[46]⟩ wd part _ _ (hL := ⟨hL.out.below (by repeat (first | (with_reducible first | exact HB.out | apply below_alloc | apply pw_below_drewN | apply below_drew1) | exact HB.out))⟩) A2.out).mono ?_); rintro e w1 ⟨rfl, ⟨nd, rfl⟩⟩; refine ⟨_, rfl, ?_⟩)
          | ((with_reducible refine gate_callee (f := 77) rfl ?_); refine goesL_ (some 22) rfl rfl Tryd.func77 (by kernel_rfl) rfl #[.string wd] rfl (by (try simp only [List.map_toArray, List.map_cons, List.map_nil]); first | done | rfl) ?_; (refine (fixnum_plain.calls (a0.size + 2) wd _ _ A3.out).mono ?_); rintro e w1 ⟨rfl, ⟨nd, rfl⟩⟩; refine ⟨_, rfl, ?_⟩)
          | ((with_reducible refine gate_callee (f := 77) rfl ?_); (try (refine gate_guard (by rfl) ?_; dsimp only)); refine goesL_ (some 43) rfl rfl Tryd.func77 (by kernel_rfl) rfl #[.string part] rfl (by (try simp only [List.map_toArray, List.map_cons, List.map_nil]); first | done | rfl) ?_; (refine (fixnum_plain.calls (a0.size + 2) part _ _ A4.out).mono ?_); rintro e w1 ⟨rfl, ⟨nd, rfl⟩⟩; refine ⟨_, rfl, ?_⟩))
         go_ret2
         exact ⟨by first | rfl | (simp; done) | (simp [*]; done), (by repeat (first | (with_reducible first | exact HB.out | apply below_alloc | apply pw_below_drewN | apply below_drew1) | exact HB.out))⟩
        ·rw [if_neg g6] at H
         have y6 : decide (4 < (part.size : Int)) = false := decide_eq_false (by omega)
         unfold parseTail at H
         obtain ⟨c, hcc⟩ : ∃ c, 4 - part.size = c := ⟨_, rfl⟩
         rw [hcc] at H
         have hc : (4 : Int) - (part.size : Int) = (c : Int) := by omega
         have hrep := fun w => rep_calls c (by omega) w
         obtain ⟨rp, hrp, hrz⟩ : ∃ rp : ByteArray, (⟨(Lib.repeatL [48] c).toArray⟩ : ByteArray) = rp ∧ rp.size ≤ 4 := ⟨_, rfl, rep_size c (by omega)⟩
         rw [hrp] at H hrep
         obtain ⟨big, hbig⟩ : ∃ big : ByteArray, wd ++ part ++ rp = big := ⟨_, rfl⟩
         have hbs : big.size ≤ 1000000 := by rw [← hbig, ByteArray.size_append, ByteArray.size_append]; omega
         have z1 : (9223372036854775807 < wd.size + part.size) = False := eq_false (by omega)
         have z2 : (9223372036854775807 < wd.size + part.size + rp.size) = False := eq_false (by omega)
         have z3 : (9223372036854775807 < (wd ++ part).size + rp.size) = False := eq_false (by rw [ByteArray.size_append]; omega)
         rw [hbig] at H
         clear g6
         cases hpu : isOk (Lib.parseUintB 64 big.data.toList) with
         | some u =>
          rw [hpu] at H
          have A5 := Aside0.mk H
          clear H
          go_enter Tryd.func57, Tryd.ntmps57
          go_wp2_with (first
           | ((with_reducible refine gate_callee (f := 35) rfl ?_); refine goesL_ (some 12) rfl rfl Tryd.func35 (by kernel_rfl) rfl #[.string a0, .string ⟨#[45]⟩] rfl (by (try simp only [List.map_toArray, List.map_cons, List.map_nil]); first | done | rfl) ?_; (refine (strings_CutPrefix.calls a0 ⟨#[45]⟩ s1 neg _ A1.out).mono ?_); rintro e w1 ⟨rfl, ⟨nd, rfl⟩⟩; refine ⟨_, rfl, ?_⟩)
           | ((with_reducible refine gate_callee (f := 25) rfl ?_); refine goesL_ (some 17) rfl rfl Tryd.func25 (by kernel_rfl) rfl #[.string s1, .string ⟨#[46]⟩] rfl (by (try simp only [List.map_toArray, List.map_cons, List.map_nil]); first | done | rfl) ?_; (refine (strings_Cut.calls s1 ⟨#[46]⟩ wd part _ _ (hL := ⟨hL.out.below (by repeat (first | (with_reducible first | exact HB.out | apply below_alloc | apply pw_below_drewN | apply below_drew1) | exact HB.out))⟩) A2.out).mono ?_); rintro e w1 ⟨rfl, ⟨nd, rfl⟩⟩; refine ⟨_, rfl, ?_⟩)
           | ((with_reducible refine gate_callee (f := 77) rfl ?_); refine goesL_ (some 22) rfl rfl Tryd.func77 (by kernel_rfl) rfl #[.string wd] rfl (by (try simp only [List.map_toArray, List.map_cons, List.map_nil]); first | done | rfl) ?_; (refine (fixnum_plain.calls (a0.size + 2) wd _ _ A3.out).mono ?_); rintro e w1 ⟨rfl, ⟨nd, rfl⟩⟩; refine ⟨_, rfl, ?_⟩)
           | ((with_reducible refine gate_callee (f := 77) rfl ?_); (try (refine gate_guard (by rfl) ?_; dsimp only)); refine goesL_ (some 43) rfl rfl Tryd.func77 (by kernel_rfl) rfl #[.string part] rfl (by (try simp only [List.map_toArray, List.map_cons, List.map_nil]); first | done | rfl) ?_; (refine (fixnum_plain.calls (a0.size + 2) part _ _ A4.out).mono ?_); rintro e w1 ⟨rfl, ⟨nd, rfl⟩⟩; refine ⟨_, rfl, ?_⟩)
           | ((with_reducible refine gate_callee (f := 78) rfl ?_); refine goesL_ (some 59) rfl rfl Tryd.func78 (by kernel_rfl) rfl #[.string ⟨#[48]⟩, .int .i64 (c : Int)] rfl (by (try simp only [List.map_toArray, List.map_cons, List.map_nil]); first | done | rfl) ?_; (refine (hrep _).mono ?_); rintro e w2 ⟨rfl, hb⟩; refine ⟨_, rfl, ?_⟩; have n1_ := Aside0.mk (below_step (by repeat (first | (with_reducible first | exact HB.out | apply below_alloc | apply pw_below_drewN | apply below_drew1) | exact HB.out)) hb); clear HB; have HB := n1_; clear n1_; clear hb)
           | ((with_reducible refine gate_callee (f := 36) rfl ?_); refine goesL_ (some 61) rfl rfl Tryd.func36 (by kernel_rfl) rfl #[.string big, .int .i64 10, .int .i64 64] rfl (by (try simp only [List.map_toArray, List.map_cons, List.map_nil]); first | done | rfl) ?_; (refine (pu_ok big u hbs hpu _).mono ?_); rintro e w3 ⟨rfl, hb⟩; refine ⟨_, rfl, ?_⟩; have n1_ := Aside0.mk (below_step (by repeat (first | (with_reducible first | exact HB.out | apply below_alloc | apply pw_below_drewN | apply below_drew1) | exact HB.out)) hb); clear HB; have HB := n1_; clear n1_; clear hb)
           | ((with_reducible refine gate_callee (f := 79) rfl ?_); refine goesL_ (some 68) rfl rfl Tryd.func79 (by kernel_rfl) rfl #[.int .u64 (u : Int), .bool neg] rfl (by (try simp only [List.map_toArray, List.map_cons, List.map_nil]); first | done | rfl) ?_; (refine (fixnum_signed.calls 3 (u : Int) neg _ _ _ A5.out).mono ?_); rintro e w1 ⟨rfl, ⟨nd, rfl⟩⟩; refine ⟨_, rfl, ?_⟩))
          go_ret2
          exact ⟨by first | rfl | (simp; done) | (simp [*]; done), (by repeat (first | (with_reducible first | exact HB.out | apply below_alloc | apply pw_below_drewN | apply below_drew1) | exact HB.out))⟩
         | none =>
          rw [hpu] at H
          simp only [Option.some.injEq, Prod.mk.injEq] at H
          obtain ⟨rfl, rfl⟩ := H
          go_enter Tryd.func57, Tryd.ntmps57
          go_wp2_with (first
           | ((with_reducible refine gate_callee (f := 35) rfl ?_); refine goesL_ (some 12) rfl rfl Tryd.func35 (by kernel_rfl) rfl #[.string a0, .string ⟨#[45]⟩] rfl (by (try simp only [List.map_toArray, List.map_cons, List.map_nil]); first | done | rfl) ?_; (refine (strings_CutPrefix.calls a0 ⟨#[45]⟩ s1 neg _ A1.out).mono ?_); rintro e w1 ⟨rfl, ⟨nd, rfl⟩⟩; refine ⟨_, rfl, ?_⟩)
           | ((with_reducible refine gate_callee (f := 25) rfl ?_); refine goesL_ (some 17) rfl rfl Tryd.func25 (by kernel_rfl) rfl #[.string s1, .string ⟨#[46]⟩] rfl (by (try simp only [List.map_toArray, List.map_cons, List.map_nil]); first | done | rfl) ?_; (refine (strings_Cut.calls s1 ⟨#[46]⟩ wd part _ _ (hL := ⟨hL.out.below (by repeat (first | (with_reducible first | exact HB.out | apply below_alloc | apply pw_below_drewN | apply below_drew1) | exact HB.out))⟩) A2.out).mono ?_); rintro e w1 ⟨rfl, ⟨nd, rfl⟩⟩; refine ⟨_, rfl, ?_⟩)
           | ((with_reducible refine gate_callee (f := 77) rfl ?_); refine goesL_ (some 22) rfl rfl Tryd.func77 (by kernel_rfl) rfl #[.string wd] rfl (by (try simp only [List.map_toArray, List.map_cons, List.map_nil]); first | done | rfl) ?_; (refine (fixnum_plain.calls (a0.size + 2) wd _ _ A3.out).mono ?_); rintro e w1 ⟨rfl, ⟨nd, rfl⟩⟩; refine ⟨_, rfl, ?_⟩)
           | ((with_reducible refine gate_callee (f := 77) rfl ?_); (try (refine gate_guard (by rfl) ?_; dsimp only)); refine goesL_ (some 43) rfl rfl Tryd.func77 (by kernel_rfl) rfl #[.string part] rfl (by (try simp only [List.map_toArray, List.map_cons, List.map_nil]); first | done | rfl) ?_; (refine (fixnum_plain.calls (a0.size + 2) part _ _ A4.out).mono ?_); rintro e w1 ⟨rfl, ⟨nd, rfl⟩⟩; refine ⟨_, rfl, ?_⟩)
           | ((with_reducible refine gate_callee (f := 78) rfl ?_); refine goesL_ (some 59) rfl rfl Tryd.func78 (by kernel_rfl) rfl #[.string ⟨#[48]⟩, .int .i64 (c : Int)] rfl (by (try simp only [List.map_toArray, List.map_cons, List.map_nil]); first | done | rfl) ?_; (refine (hrep _).mono ?_); rintro e w2 ⟨rfl, hb⟩; refine ⟨_, rfl, ?_⟩; have n1_ := Aside0.mk (below_step (by repeat (first | (with_reducible first | exact HB.out | apply below_alloc | apply pw_below_drewN | apply below_drew1) | exact HB.out)) hb); clear HB; have HB := n1_; clear n1_; clear hb)
           | ((with_reducible refine gate_callee (f := 36) rfl ?_); refine goesL_ (some 61) rfl rfl Tryd.func36 (by kernel_rfl) rfl #[.string big, .int .i64 10, .int .i64 64] rfl (by (try simp only [List.map_toArray, List.map_cons, List.map_nil]); first | done | rfl) ?_; (refine (pu_no big hbs hpu _ (⟨hL.out.below (by repeat (first | (with_reducible first | exact HB.out | apply below_alloc | apply pw_below_drewN | apply below_drew1) | exact HB.out))⟩)).mono ?_); rintro e w3 ⟨V, M, rfl, hb⟩; refine ⟨_, rfl, ?_⟩; have n1_ := Aside0.mk (below_step (by repeat (first | (with_reducible first | exact HB.out | apply below_alloc | apply pw_below_drewN | apply below_drew1) | exact HB.out)) hb); clear HB; have HB := n1_; clear n1_; clear hb))
          go_ret2
          exact ⟨by first | rfl | (simp; done) | (simp [*]; done), (by repeat (first | (with_reducible first | exact HB.out | apply below_alloc | apply pw_below_drewN | apply below_drew1) | exact HB.out))⟩
      | false =>
       rw [if_neg (by decide)] at H
       by_cases g6 : part.size = 0
       ·rw [if_pos g6] at H
        unfold parseTail at H
        obtain ⟨c, hcc⟩ : ∃ c, 4 - part.size = c := ⟨_, rfl⟩
        rw [hcc] at H
        have hc : (4 : Int) - (part.size : Int) = (c : Int) := by omega
        have hrep := fun w => rep_calls c (by omega) w
        obtain ⟨rp, hrp, hrz⟩ : ∃ rp : ByteArray, (⟨(Lib.repeatL [48] c).toArray⟩ : ByteArray) = rp ∧ rp.size ≤ 4 := ⟨_, rfl, rep_size c (by omega)⟩
        rw [hrp] at H hrep
        obtain ⟨big, hbig⟩ : ∃ big : ByteArray, wd ++ part ++ rp = big := ⟨_, rfl⟩
        have hbs : big.size ≤ 1000000 := by rw [← hbig, ByteArray.size_append, ByteArray.size_append]; omega
        have z1 : (9223372036854775807 < wd.size + part.size) = False := eq_false (by omega)
        have z2 : (9223372036854775807 < wd.size + part.size + rp.size) = False := eq_false (by omega)
        have z3 : (9223372036854775807 < (wd ++ part).size + rp.size) = False := eq_false (by rw [ByteArray.size_append]; omega)
        rw [hbig] at H
        clear g6
        cases hpu : isOk (Lib.parseUintB 64 big.data.toList) with
        | some u =>
         rw [hpu] at H
         have A5 := Aside0.mk H
         clear H
         go_enter Tryd.func57, Tryd.ntmps57
         go_wp2_with (first
          | ((with_reducible refine gate_callee (f := 35) rfl ?_); refine goesL_ (some 12) rfl rfl Tryd.func35 (by kernel_rfl) rfl #[.string a0, .string ⟨#[45]⟩] rfl (by (try simp only [List.map_toArray, List.map_cons, List.map_nil]); first | done | rfl) ?_; (refine (strings_CutPrefix.calls a0 ⟨#[45]⟩ s1 neg _ A1.out).mono ?_); rintro e w1 ⟨rfl, ⟨nd, rfl⟩⟩; refine ⟨_, rfl, ?_⟩)
          | ((with_reducible refine gate_callee (f := 25) rfl ?_); refine goesL_ (some 17) rfl rfl Tryd.func25 (by kernel_rfl) rfl #[.string s1, .string ⟨#[46]⟩] rfl (by (try simp only [List.map_toArray, List.map_cons, List.map_nil]); first | done | rfl) ?_; (refine (strings_Cut.calls s1 ⟨#[46]⟩ wd part _ _ (hL := ⟨hL.out.below (by repeat (first | (with_reducible first | exact HB.out | apply below_alloc | apply pw_below_drewN | apply below_drew1) | exact HB.out))⟩) A2.out).mono ?_); rintro e w1 ⟨rfl, ⟨nd, rfl⟩⟩; refine ⟨_, rfl, ?_⟩)
          | ((with_reducible refine gate_callee (f := 77) rfl ?_); refine goesL_ (some 22) rfl rfl Tryd.func77 (by kernel_rfl) rfl #[.string wd] rfl (by (try simp only [List.map_toArray, List.map_cons, List.map_nil]); first | done | rfl) ?_; (refine (fixnum_plain.calls (a0.size + 2) wd _ _ A3.out).mono ?_); rintro e w1 ⟨rfl, ⟨nd, rfl⟩⟩; refine ⟨_, rfl, ?_⟩)
          | ((with_reducible refine gate_callee (f := 78) rfl ?_); refine goesL_ (some 59) rfl rfl Tryd.func78 (by kernel_rfl) rfl #[.string ⟨#[48]⟩, .int .i64 (c : Int)] rfl (by (try simp only [List.map_toArray, List.map_cons, List.map_nil]); first | done | rfl) ?_; (refine (hrep _).mono ?_); rintro e w2 ⟨rfl, hb⟩; refine ⟨_, rfl, ?_⟩; have n1_ := Aside0.mk (below_step (by repeat (first | (with_reducible first | exact HB.out | apply below_alloc | apply pw_below_drewN | apply below_drew1) | exact HB.out)) hb); clear HB; have HB := n1_; clear n1_; clear hb)
          | ((with_reducible refine gate_callee (f := 36) rfl ?_); refine goesL_ (some 61) rfl rfl Tryd.func36 (by kernel_rfl) rfl #[.string big, .int .i64 10, .int .i64 64] rfl (by (try simp only [List.map_toArray, List.map_cons, List.map_nil]); first | done | rfl) ?_; (refine (pu_ok big u hbs hpu _).mono ?_); rintro e w3 ⟨rfl, hb⟩; refine ⟨_, rfl, ?_⟩; have n1_ := Aside0.mk (below_step (by repeat (first | (with_reducible first | exact HB.out | apply below_alloc | apply pw_below_drewN | apply below_drew1) | exact HB.out)) hb); clear HB; have HB := n1_; clear n1_; clear hb)
          | ((with_reducible refine gate_callee (f := 79) rfl ?_); refine goesL_ (some 68) rfl rfl Tryd.func79 (by kernel_rfl) rfl #[.int .u64 (u : Int), .bool neg] rfl (by (try simp only [List.map_toArray, List.map_cons, List.map_nil]); first | done | rfl) ?_; (refine (fixnum_signed.calls 3 (u : Int) neg _ _ _ A5.out).mono ?_); rintro e w1 ⟨rfl, ⟨nd, rfl⟩⟩; refine ⟨_, rfl, ?_⟩))
         go_ret2
         exact ⟨by first | rfl | (simp; done) | (simp [*]; done), (by repeat (first | (with_reducible first | exact HB.out | apply below_alloc | apply pw_below_drewN | apply below_drew1) | exact HB.out))⟩
        | none =>
         rw [hpu] at H
         simp only [Option.some.injEq, Prod.mk.injEq] at H
         obtain ⟨rfl, rfl⟩ := H
         go_enter Tryd.func57, Tryd.ntmps57
         go_wp2_with (first
          | ((with_reducible refine gate_callee (f := 35) rfl ?_); refine goesL_ (some 12) rfl rfl Tryd.func35 (by kernel_rfl) rfl #[.string a0, .string ⟨#[45]⟩] rfl (by (try simp only [List.map_toArray, List.map_cons, List.map_nil]); first | done | rfl) ?_; (refine (strings_CutPrefix.calls a0 ⟨#[45]⟩ s1 neg _ A1.out).mono ?_); rintro e w1 ⟨rfl, ⟨nd, rfl⟩⟩; refine ⟨_, rfl, ?_⟩)
          | ((with_reducible refine gate_callee (f := 25) rfl ?_); refine goesL_ (some 17) rfl rfl Tryd.func25 (by kernel_rfl) rfl #[.string s1, .string ⟨#[46]⟩] rfl (by (try simp only [List.map_toArray, List.map_cons, List.map_nil]); first | done | rfl) ?_; (refine (strings_Cut.calls s1 ⟨#[46]⟩ wd part _ _ (hL := ⟨hL.out.below (by repeat (first | (with_reducible first | exact HB.out | apply below_alloc | apply pw_below_drewN | apply below_drew1) | exact HB.out))⟩) A2.out).mono ?_); rintro e w1 ⟨rfl, ⟨nd, rfl⟩⟩; refine ⟨_, rfl, ?_⟩)
          | ((with_reducible refine gate_callee (f := 77) rfl ?_); refine goesL_ (some 22) rfl rfl Tryd.func77 (by kernel_rfl) rfl #[.string wd] rfl (by (try simp only [List.map_toArray, List.map_cons, List.map_nil]); first | done | rfl) ?_; (refine (fixnum_plain.calls (a0.size + 2) wd _ _ A3.out).mono ?_); rintro e w1 ⟨rfl, ⟨nd, rfl⟩⟩; refine ⟨_, rfl, ?_⟩)
          | ((with_reducible refine gate_callee (f := 78) rfl ?_); refine goesL_ (some 59) rfl rfl Tryd.func78 (by kernel_rfl) rfl #[.string ⟨#[48]⟩, .int .i64 (c : Int)] rfl (by (try simp only [List.map_toArray, List.map_cons, List.map_nil]); first | done | rfl) ?_; (refine (hrep _).mono ?_); rintro e w2 ⟨rfl, hb⟩; refine ⟨_, rfl, ?_⟩; have n1_ := Aside0.mk (below_step (by repeat (first | (with_reducible first | exact HB.out | apply below_alloc | apply pw_below_drewN | apply below_drew1) | exact HB.out)) hb); clear HB; have HB := n1_; clear n1_; clear hb)
          | ((with_reducible refine gate_callee (f := 36) rfl ?_); refine goesL_ (some 61) rfl rfl Tryd.func36 (by kernel_rfl) rfl #[.string big, .int .i64 10, .int .i64 64] rfl (by (try simp only [List.map_toArray, List.map_cons, List.map_nil]); first | done | rfl) ?_; (refine (pu_no big hbs hpu _ (⟨hL.out.below (by repeat (first | (with_reducible first | exact HB.out | apply below_alloc | apply pw_below_drewN | apply below_drew1) | exact HB.out))⟩)).mono ?_); rintro e w3 ⟨V, M, rfl, hb⟩; refine ⟨_, rfl, ?_⟩; have n1_ := Aside0.mk (below_step (by repeat (first | (with_reducible first | exact HB.out | apply below_alloc | apply pw_below_drewN | apply below_drew1) | exact HB.out)) hb); clear HB; have HB := n1_; clear n1_; clear hb))
         go_ret2
         exact ⟨by first | rfl | (simp; done) | (simp [*]; done), (by repeat (first | (with_reducible first | exact HB.out | apply below_alloc | apply pw_below_drewN | apply below_drew1) | exact HB.out))⟩
       ·rw [if_neg g6] at H; cases H
 ·rw [if_neg h0] at h; cases h
end Go.Proofs.YtpabggjnkoehfaaDoor.Ext
end
section
namespace Go.Proofs.YtpabggjnkoehfaaDoor.Ext
open Go.Shelf Go.RowKit Go.Sort Go.Lib Go.Proofs.YtpabggjnkoehfaaDoorW.PrintWords Go.Proofs.YtpabggjnkoehfaaDoorW.PrintLast Go.Proofs.YtpabggjnkoehfaaDoor.EFxA
set_option linter.unusedVariables false
theorem wrap_u64 (n : Int) : IntKind.u64.wrap n = n % 18446744073709551616 := by simp [IntKind.wrap, IntKind.bits, IntKind.signed]
theorem signed3_eq (a0 : Int) (a1 : Bool) (h0 : 0 ≤ a0) (h1 : a0 < 18446744073709551616) : fixnum_signed.f 3 a0 a1 = some (if a1 then (if a0 ≤ 9223372036854775808 then (-a0, true) else (0, false)) else (if a0 ≤ 9223372036854775807 then (a0, true) else (0, false))) := by
  cases a1
  · unfold fixnum_signed.f
    rw [if_neg (by decide)]
    by_cases c : a0 > 9223372036854775807
    · rw [decide_eq_true c, fixnum_signed.j0, if_pos rfl, fixnum_signed.j1, if_pos rfl, if_neg (by decide), if_neg (by omega)]
    · rw [decide_eq_false c, fixnum_signed.j0, if_neg (by decide), if_neg (by decide), fixnum_signed.j1, if_neg (by decide), if_neg (by decide), if_neg (by decide), if_pos (by omega)]
      have : wrap64 a0 = a0 := by rw [wrap64]; omega
      rw [this]
  · unfold fixnum_signed.f
    rw [if_pos rfl, fixnum_signed.j0, if_neg (by decide), if_pos rfl, if_pos rfl]
    by_cases c : a0 > 9223372036854775808
    · rw [decide_eq_true c, fixnum_signed.j1, if_pos rfl, if_neg (by omega)]
    · rw [decide_eq_false c, fixnum_signed.j1, if_neg (by decide), if_pos rfl, if_pos (by omega)]
      have : wrap64 (IntKind.u64.wrap (-a0)) = -a0 := by rw [wrap_u64, wrap64]; omega
      rw [this]
end Go.Proofs.YtpabggjnkoehfaaDoor.Ext
end
section
namespace Go.Proofs.YtpabggjnkoehfaaDoor.FixP
open Go.RowKit Go.Lib Go.Proofs.YtpabggjnkoehfaaDoorW.PrintWords Go.Proofs.YtpabggjnkoehfaaDoorW.PrintLast Go.Proofs.YtpabggjnkoehfaaDoor.Ext Go.Proofs.YtpabggjnkoehfaaDoor.EFxA
theorem wr (x : Int) (h : -9223372036854775808 ≤ x) (h' : x ≤ 9223372036854775807) : wrap64 x = x := by unfold wrap64; omega
def by_ (s : ByteArray) : List UInt8 := s.data.toList
theorem by_len (s : ByteArray) : (by_ s).length = s.size := (Lib.size_eq s).symm
theorem bt_by (s : ByteArray) (j : Nat) (h : j < (by_ s).length) : bt s (j : Int) = (((by_ s)[j]).toNat : Int) := by
  have h' : j < s.size := by rw [← by_len]; exact h
  unfold bt
  rw [dif_pos (by simpa using h')]
  rfl
theorem by_take (s : ByteArray) (j : Nat) : by_ (s.extract 0 j) = (by_ s).take j := by
  unfold by_; rw [Lib.extract_data]; simp
theorem by_drop (s : ByteArray) (j : Nat) : by_ (s.extract j s.size) = (by_ s).drop j := Lib.extract_to_end s j
theorem by_mk (l : List UInt8) : by_ ⟨l.toArray⟩ = l := rfl
theorem by_inj {s t : ByteArray} (h : by_ s = by_ t) : s = t := by
  apply ByteArray.ext
  unfold by_ at h
  exact Array.toList_inj.1 h
def cutAt (c : UInt8) : List UInt8 → Option (List UInt8 × List UInt8)
  | [] => none
  | x :: r => if x = c then some ([], r) else match cutAt c r with | none => none | some p => some (x :: p.1, p.2)
def dropHead (c : UInt8) : List UInt8 → Option (List UInt8)
  | [] => none
  | x :: r => if x = c then some r else none
theorem dropHead_len (c : UInt8) (l r : List UInt8) (h : dropHead c l = some r) : l = c :: r := by
  cases l with
  | nil => cases h
  | cons a s =>
    by_cases e : a = c
    · have : dropHead c (a :: s) = some s := if_pos e
      rw [this] at h
      injection h with h
      rw [e, h]
    · have : dropHead c (a :: s) = none := if_neg e
      rw [this] at h
      cases h
theorem index_cut (c : UInt8) (l : List UInt8) : (cutAt c l = none ∧ Lib.index l [c] = -1) ∨ ∃ p, cutAt c l = some p ∧ Lib.index l [c] = p.1.length ∧ l = p.1 ++ c :: p.2 := by
  induction l with
  | nil => left; exact ⟨rfl, rfl⟩
  | cons x r ih =>
    have hp : [c].isPrefixOf (x :: r) = (c == x) := by simp [List.isPrefixOf]
    unfold cutAt Lib.index
    rw [hp]
    by_cases h : x = c
    · right
      subst h
      exact ⟨([], r), by rw [if_pos rfl], by simp, rfl⟩
    · have hcx : (c == x) = false := by rw [beq_eq_false_iff_ne]; exact fun e => h e.symm
      rw [if_neg h, hcx, if_neg (by simp)]
      rcases ih with ⟨h1, h2⟩ | ⟨p, h1, h2, h3⟩
      · left
        rw [h1, h2]
        exact ⟨rfl, rfl⟩
      · right
        rw [h1, h2]
        refine ⟨(x :: p.1, p.2), rfl, ?_, by rw [List.cons_append, ← h3]⟩
        rw [if_neg (by simp)]
        simp
theorem cut_eq (c : UInt8) (l : List UInt8) : Lib.cut l [c] = match cutAt c l with | none => (l, [], false) | some p => (p.1, p.2, true) := by
  unfold Lib.cut
  rcases index_cut c l with ⟨h1, h2⟩ | ⟨p, h1, h2, h3⟩
  · rw [h1, h2, if_neg (by omega)]
  · rw [h1, h2, if_pos (by omega), Int.toNat_natCast]
    show (List.take p.1.length l, List.drop (p.1.length + 1) l, true) = (p.1, p.2, true)
    rw [h3]
    simp
theorem cut_f (x : ByteArray) (c : UInt8) (hx : x.size ≤ 1000000) : strings_Cut.f x ⟨#[c]⟩ = some (match cutAt c (by_ x) with | none => (x, ⟨#[]⟩, false) | some p => (⟨p.1.toArray⟩, ⟨p.2.toArray⟩, true)) := by
  unfold strings_Cut.f
  rw [if_pos (by omega)]
  have e : Lib.cut x.data.toList (⟨#[c]⟩ : ByteArray).data.toList = _ := cut_eq c (by_ x)
  rw [e]
  cases cutAt c (by_ x) with
  | none => congr 1
  | some p => rfl
theorem cutPrefix_f (x : ByteArray) (c : UInt8) : strings_CutPrefix.f x ⟨#[c]⟩ = some (match dropHead c (by_ x) with | none => (x, false) | some r => (⟨r.toArray⟩, true)) := by
  have hl := by_len x
  unfold strings_CutPrefix.f stringslite_CutPrefix.f stringslite_HasPrefix.f
  have h1 : ((⟨#[c]⟩ : ByteArray).size : Int) = 1 := rfl
  rw [h1]
  by_cases h : (x.size : Int) ≥ 1
  · rw [if_pos h, if_pos (by omega), if_pos h, Option.bind_some]
    have ht : (x.extract 0 (1 : Int).toNat).toList = (by_ x).take 1 := by
      rw [ByteArray.toList_eq]; exact by_take x 1
    have hs : (⟨#[c]⟩ : ByteArray).toList = [c] := by rw [ByteArray.toList_eq]
    rw [ht, hs]
    have hd := by_drop x 1
    cases e : by_ x with
    | nil => rw [e] at hl; simp at hl; omega
    | cons a r =>
      rw [e] at hd
      by_cases hc : a = c
      · subst hc
        have e9 : dropHead a (a :: r) = some r := if_pos rfl
        rw [e9]
        have : (List.take 1 (a :: r) == [a]) = true := by simp
        rw [this, if_pos rfl, if_pos (by omega), if_pos h, Option.bind_some]
        congr 1
        have : x.extract (1 : Int).toNat x.size = ⟨r.toArray⟩ := by_inj hd
        rw [this]
      · have e9 : dropHead c (a :: r) = none := if_neg hc
        rw [e9]
        have : (List.take 1 (a :: r) == [c]) = false := by simp [hc]
        rw [this, if_neg (by simp), Option.bind_some]
  · rw [if_neg h, Option.bind_some, if_neg (by simp), Option.bind_some]
    have : by_ x = [] := List.eq_nil_of_length_eq_zero (by omega)
    rw [this]; rfl
theorem cutAt_len' (c : UInt8) (l : List UInt8) (p : List UInt8 × List UInt8) (h : cutAt c l = some p) : l = p.1 ++ c :: p.2 := by
  rcases index_cut c l with ⟨h1, _⟩ | ⟨q, h1, _, h2⟩
  · rw [h1] at h; cases h
  · rw [h1] at h; rw [← Option.some.inj h]; exact h2
theorem mk_size (l : List UInt8) : (⟨l.toArray⟩ : ByteArray).size = l.length := by rw [← by_len]; rfl
theorem to_by (x : ByteArray) : x.toList = by_ x := by rw [ByteArray.toList_eq]; rfl
def dig (c : UInt8) : Bool := decide (48 ≤ c.toNat) && decide (c.toNat ≤ 57)
def plainS (l : List UInt8) : Bool := l.all dig && !l.isEmpty
theorem plain_l (x : ByteArray) (hx : x.size ≤ 1000000) (d : Nat) : ∀ k j : Nat, j + d = x.size → d + 1 ≤ k → fixnum_plain.l0 k x (x.size : Int) (j : Int) = some (((by_ x).drop j).all dig && !(by_ x).isEmpty) := by
  have hl := by_len x
  induction d with
  | zero =>
    intro k j hj hk
    obtain ⟨k, rfl⟩ : ∃ m, k = m + 1 := ⟨k - 1, by omega⟩
    rw [fixnum_plain.l0, if_neg (by omega), List.drop_of_length_le (by omega), to_by]
    simp only [List.all_nil, Bool.true_and]
    cases by_ x <;> rfl
  | succ d ih =>
    intro k j hj hk
    obtain ⟨k, rfl⟩ : ∃ m, k = m + 1 := ⟨k - 1, by omega⟩
    have hjl : j < (by_ x).length := by omega
    rw [fixnum_plain.l0, if_pos (by omega), if_pos (by omega), if_pos (by omega), bt_by x j hjl, wr _ (by omega) (by omega), List.drop_eq_getElem_cons hjl]
    simp only [List.all_cons, dig]
    generalize (by_ x)[j] = c
    by_cases c1 : (c.toNat : Int) < 48
    · rw [if_pos c1, decide_eq_false (show ¬ 48 ≤ c.toNat by omega)]
      simp
    · rw [if_neg c1, decide_eq_true (show 48 ≤ c.toNat by omega)]
      by_cases c2 : (c.toNat : Int) > 57
      · rw [if_pos c2, decide_eq_false (show ¬ c.toNat ≤ 57 by omega)]
        simp
      · rw [if_neg c2, decide_eq_true (show c.toNat ≤ 57 by omega)]
        have := ih k (j + 1) (by omega) (by omega)
        rw [show (((j + 1 : Nat) : Int)) = (j : Int) + 1 by omega] at this
        rw [this]
        simp
theorem plain_f (x : ByteArray) (hx : x.size ≤ 1000000) (k : Nat) (hk : x.size + 1 ≤ k) : fixnum_plain.f k x = some (plainS (by_ x)) := by
  unfold fixnum_plain.f plainS
  have := plain_l x hx x.size k 0 (by omega) (by omega)
  simpa using this
def sgnS (u : Nat) (neg : Bool) : Int × Bool := if neg then (if u ≤ 9223372036854775808 then (-(u : Int), true) else (0, false)) else (if u ≤ 9223372036854775807 then ((u : Int), true) else (0, false))
theorem signed_f (u : Nat) (neg : Bool) (h : u < 18446744073709551616) : fixnum_signed.f 3 (u : Int) neg = some (sgnS u neg) := by
  rw [signed3_eq _ _ (by omega) (by omega)]
  unfold sgnS
  cases neg
  · simp only [Bool.false_eq_true, if_false]
    by_cases c : u ≤ 9223372036854775807
    · rw [if_pos (by omega), if_pos c]
    · rw [if_neg (by omega), if_neg c]
  · simp only [if_true]
    by_cases c : u ≤ 9223372036854775808
    · rw [if_pos (by omega), if_pos c]
    · rw [if_neg (by omega), if_neg c]
def tailS (w part : List UInt8) (neg : Bool) : Int × Bool :=
  match isOk (Lib.parseUintB 64 (w ++ part ++ Lib.repeatL [48] (4 - part.length))) with
  | some u => sgnS u neg
  | none => (0, false)
def unsS (l : List UInt8) (neg : Bool) : Int × Bool :=
  match cutAt 46 l with
  | none => if plainS l = false then (0, false) else if 1 < l.length ∧ l.head? = some 48 then (0, false) else if 16 < l.length then (0, false) else tailS l [] neg
  | some (w, part) => if plainS w = false then (0, false) else if 1 < w.length ∧ w.head? = some 48 then (0, false) else if 16 < w.length then (0, false)
    else if plainS part = false then (0, false) else if 4 < part.length then (0, false) else tailS w part neg
def parseS (l : List UInt8) : Int × Bool := match dropHead 45 l with | none => unsS l false | some r => unsS r true
theorem parseUintM_le (M : Nat) (l : List UInt8) : ∀ (acc u : Nat), acc ≤ M → Lib.parseUintM M acc l = .ok u → u ≤ M := Ext.parseUintM_le M l
theorem tail_f (w part : ByteArray) (neg : Bool) : parseTail w part neg = some (tailS (by_ w) (by_ part) neg) := by
  unfold parseTail tailS
  have e : (w ++ part ++ ⟨(Lib.repeatL [48] (4 - part.size)).toArray⟩ : ByteArray).data.toList = by_ w ++ by_ part ++ Lib.repeatL [48] (4 - (by_ part).length) := by
    rw [by_len]
    simp [by_]
  rw [e]
  generalize by_ w ++ by_ part ++ Lib.repeatL [48] (4 - (by_ part).length) = l
  cases h : isOk (Lib.parseUintB 64 l) with
  | none => rfl
  | some u =>
    have hu : Lib.parseUintB 64 l = .ok u := by
      revert h
      cases Lib.parseUintB 64 l with
      | ok v => intro h; rw [show v = u from Option.some.inj h]
      | _ => intro h; cases h
    have := Ext.parseUintB_le 64 l u hu
    exact signed_f u neg (by omega)
theorem head_by (x : ByteArray) (h : 1 < x.size) : (bt x 0 = 48) ↔ (by_ x).head? = some 48 := by
  have hl := by_len x
  have h0 : 0 < (by_ x).length := by omega
  have := bt_by x 0 h0
  rw [show ((0 : Nat) : Int) = 0 from rfl] at this
  rw [this]
  rw [List.head?_eq_getElem?, List.getElem?_eq_getElem h0, Option.some.injEq]
  generalize (by_ x)[0] = c
  constructor
  · intro h'; exact UInt8.toNat_inj.mp (by rw [show (48 : UInt8).toNat = 48 from rfl]; omega)
  · rintro rfl; rfl
theorem uns_f (x : ByteArray) (hx : x.size ≤ 100000) (k : Nat) (hk : x.size + 1 ≤ k) (neg : Bool) :
    ((strings_Cut.f x ⟨#[46]⟩).bind fun d => (fixnum_plain.f k d.1).bind fun p =>
      if p = false then some (0, false) else if 1 < d.1.size ∧ bt d.1 0 = 48 then some (0, false) else if 16 < d.1.size then some (0, false)
      else if d.2.2 = true then (fixnum_plain.f k d.2.1).bind fun p2 => if p2 = false then some (0, false) else if 4 < d.2.1.size then some (0, false) else parseTail d.1 d.2.1 neg
      else if d.2.1.size = 0 then parseTail d.1 d.2.1 neg else none) = some (unsS (by_ x) neg) := by
  rw [cut_f x 46 (by omega)]
  have hl := by_len x
  unfold unsS
  cases e : cutAt 46 (by_ x) with
  | none =>
    simp only [Option.bind_some]
    rw [plain_f x (by omega) k hk, Option.bind_some]
    have e0 : (⟨#[]⟩ : ByteArray).size = 0 := rfl
    by_cases c1 : plainS (by_ x) = false
    · rw [if_pos c1, if_pos c1]
    · rw [if_neg c1, if_neg c1]
      by_cases c2 : 1 < x.size ∧ bt x 0 = 48
      · rw [if_pos c2, if_pos ⟨by omega, (head_by x c2.1).mp c2.2⟩]
      · rw [if_neg c2, if_neg (show ¬ (1 < (by_ x).length ∧ (by_ x).head? = some 48) from fun h => c2 ⟨by omega, (head_by x (by omega)).mpr h.2⟩)]
        by_cases c3 : 16 < x.size
        · rw [if_pos c3, if_pos (by omega)]
        · rw [if_neg c3, if_neg (show ¬ (false = true) by decide), if_pos e0, if_neg (show ¬ 16 < (by_ x).length by omega), tail_f]
          rfl
  | some p =>
    obtain ⟨w, part⟩ := p
    have hc := cutAt_len' 46 _ _ e
    have hw : (⟨w.toArray⟩ : ByteArray).size = w.length := mk_size w
    have hp : (⟨part.toArray⟩ : ByteArray).size = part.length := mk_size part
    have hs : w.length + part.length + 1 = x.size := by rw [← hl, hc]; simp; omega
    simp only [Option.bind_some]
    rw [plain_f _ (by omega) k (by omega), Option.bind_some, by_mk, hw]
    by_cases c1 : plainS w = false
    · rw [if_pos c1, if_pos c1]
    · rw [if_neg c1, if_neg c1]
      have hb : 1 < w.length → ((bt ⟨w.toArray⟩ 0 = 48) ↔ w.head? = some 48) := fun h => head_by ⟨w.toArray⟩ (by omega)
      by_cases c2 : 1 < w.length ∧ bt ⟨w.toArray⟩ 0 = 48
      · rw [if_pos c2, if_pos ⟨c2.1, (hb c2.1).mp c2.2⟩]
      · rw [if_neg c2, if_neg (show ¬ (1 < w.length ∧ w.head? = some 48) from fun h => c2 ⟨h.1, (hb h.1).mpr h.2⟩)]
        by_cases c3 : 16 < w.length
        · rw [if_pos c3, if_pos c3]
        · rw [if_neg c3, if_neg c3, if_pos trivial, plain_f _ (by omega) k (by omega), Option.bind_some, by_mk, hp]
          by_cases c4 : plainS part = false
          · rw [if_pos c4, if_pos c4]
          · rw [if_neg c4, if_neg c4]
            by_cases c5 : 4 < part.length
            · rw [if_pos c5, if_pos c5]
            · rw [if_neg c5, if_neg c5, tail_f]
              rfl
theorem parse_f (x : ByteArray) (hx : x.size ≤ 100000) : fixnum_Parse.f x = some (parseS (by_ x)) := by
  unfold fixnum_Parse.f parseS
  have hl := by_len x
  rw [if_pos hx, cutPrefix_f, Option.bind_some]
  cases e : dropHead 45 (by_ x) with
  | none => exact uns_f x hx (x.size + 2) (by omega) false
  | some r =>
    have hr := dropHead_len 45 _ _ e
    have hs : (⟨r.toArray⟩ : ByteArray).size + 1 = x.size := by rw [mk_size, ← hl, hr]; simp
    exact uns_f ⟨r.toArray⟩ (by omega) (x.size + 2) (by omega) true
end Go.Proofs.YtpabggjnkoehfaaDoor.FixP
end
section
namespace Go.Proofs.YtpabggjnkoehfaaDoor.A1
open Go.Lib
def isDig (c : UInt8) : Prop := 48 ≤ c.toNat ∧ c.toNat ≤ 57
instance (c : UInt8) : Decidable (isDig c) := by unfold isDig; infer_instance
def dstep (a : Nat) (c : UInt8) : Nat := a * 10 + (c.toNat - 48)
def dval (a : Nat) (l : List UInt8) : Nat := l.foldl dstep a
theorem dval_snoc (a : Nat) (l : List UInt8) (c : UInt8) : dval a (l ++ [c]) = dval a l * 10 + (c.toNat - 48) := by
  unfold dval; rw [List.foldl_append]; rfl
theorem dval_ge (l : List UInt8) : ∀ a, a ≤ dval a l := by
  induction l with
  | nil => intro a; exact Nat.le_refl _
  | cons c r ih =>
    intro a
    have := ih (dstep a c)
    show a ≤ dval (dstep a c) r
    unfold dstep at *; omega
def canon (l : List UInt8) : Prop := l ≠ [] ∧ (∀ c, c ∈ l → isDig c) ∧ (l.length = 1 ∨ ∀ c, l.head? = some c → c.toNat ≠ 48)
instance (l : List UInt8) : Decidable (canon l) := by
  unfold canon
  cases l with
  | nil => exact isFalse (fun h => h.1 rfl)
  | cons c r =>
    have : Decidable (∀ d, (c :: r).head? = some d → d.toNat ≠ 48) := decidable_of_iff (c.toNat ≠ 48) (by simp)
    infer_instance
theorem dig_of (u : Nat) (h : u < 10) : (UInt8.ofNat (48 + u)).toNat = 48 + u := by
  rw [UInt8.toNat_ofNat']; omega
theorem ofNat_dig (c : UInt8) (h : isDig c) : UInt8.ofNat (48 + (c.toNat - 48)) = c := by
  unfold isDig at h
  rw [show 48 + (c.toNat - 48) = c.toNat by omega]
  exact UInt8.ofNat_toNat
theorem dec_canon (u : Nat) : canon (decDigits u) ∧ dval 0 (decDigits u) = u ∧ (1 ≤ u → ∀ c, (decDigits u).head? = some c → c.toNat ≠ 48) := by
  induction u using Nat.strongRecOn with
  | _ u ih =>
    rw [decDigits]
    by_cases h : u < 10
    · rw [dif_pos h]
      refine ⟨⟨by simp, ?_, .inl rfl⟩, ?_, ?_⟩
      · intro c hc
        rw [List.mem_singleton.1 hc]
        unfold isDig; rw [dig_of u h]; omega
      · show dstep 0 _ = u
        unfold dstep; rw [dig_of u h]; omega
      · intro h1 c hc
        simp only [List.head?_cons, Option.some.injEq] at hc
        rw [← hc, dig_of u h]; omega
    · rw [dif_neg h]
      obtain ⟨⟨i1, i2, _⟩, i4, i5⟩ := ih (u / 10) (by omega)
      have hd := i5 (by omega)
      have hh : ∀ c, (decDigits (u / 10) ++ [UInt8.ofNat (48 + u % 10)]).head? = some c → c.toNat ≠ 48 := by
        intro c hc
        cases e : decDigits (u / 10) with
        | nil => exact absurd e i1
        | cons a r =>
          rw [e] at hc hd
          simp only [List.cons_append, List.head?_cons, Option.some.injEq] at hc
          exact hd c (by rw [← hc]; rfl)
      refine ⟨⟨by simp, ?_, .inr hh⟩, ?_, fun _ => hh⟩
      · intro c hc
        rcases List.mem_append.1 hc with hc | hc
        · exact i2 c hc
        · rw [List.mem_singleton.1 hc]
          unfold isDig; rw [dig_of _ (by omega)]; omega
      · rw [dval_snoc, i4, dig_of _ (by omega)]; omega
theorem canon_dec (n : Nat) : ∀ l : List UInt8, l.length = n → canon l → decDigits (dval 0 l) = l := by
  induction n with
  | zero => intro l hl hc; exact absurd (List.eq_nil_of_length_eq_zero hl) hc.1
  | succ n ih =>
    intro l hl hc
    rcases List.eq_nil_or_concat l with h | ⟨l', c, h⟩
    · exact absurd h hc.1
    · rw [List.concat_eq_append] at h
      subst h
      have hcd : isDig c := hc.2.1 c (by simp)
      rw [dval_snoc]
      by_cases h0 : l' = []
      · subst h0
        have : dval 0 [] = 0 := rfl
        rw [this, Nat.zero_mul, Nat.zero_add, decDigits]
        unfold isDig at hcd
        rw [dif_pos (by omega), ofNat_dig c hcd]; rfl
      · have hl' : l'.length = n := by simpa using hl
        have hpos : 0 < l'.length := List.length_pos_iff.2 h0
        have hh : ∀ d, l'.head? = some d → d.toNat ≠ 48 := by
          rcases hc.2.2 with h1 | h1
          · simp at h1; exact absurd h1 h0
          · intro d hd
            refine h1 d ?_
            cases l' with
            | nil => cases hd
            | cons a r => simpa using hd
        have hc' : canon l' := ⟨h0, fun d hd => hc.2.1 d (List.mem_append_left _ hd), .inr hh⟩
        have e := ih l' hl' hc'
        have hv : 1 ≤ dval 0 l' := by
          cases l' with
          | nil => exact absurd rfl h0
          | cons a r =>
            have ha := hh a rfl
            have hb : isDig a := hc'.2.1 a (List.mem_cons_self ..)
            unfold isDig at hb
            have := dval_ge r (dstep 0 a)
            show 1 ≤ dval (dstep 0 a) r
            unfold dstep at *; omega
        unfold isDig at hcd
        rw [decDigits, dif_neg (by omega)]
        have e1 : (dval 0 l' * 10 + (c.toNat - 48)) / 10 = dval 0 l' := by omega
        have e2 : (dval 0 l' * 10 + (c.toNat - 48)) % 10 = c.toNat - 48 := by omega
        rw [e1, e2, e, ofNat_dig c hcd]
theorem parse_ok (M : Nat) (hM : 1000000000000000 ≤ M) (l : List UInt8) : ∀ a, (∀ c, c ∈ l → isDig c) → dval a l < 1000000000000000 → parseUintM M a l = .ok (dval a l) := by
  induction l with
  | nil => intro a _ _; rfl
  | cons c r ih =>
    intro a hd hv
    have hc := hd c (List.mem_cons_self ..)
    have hv' : dval (dstep a c) r < 1000000000000000 := hv
    have hge : a * 10 + (c.toNat - 48) ≤ dval (dstep a c) r := dval_ge r (dstep a c)
    unfold parseUintM
    unfold isDig at hc
    rw [if_pos hc, if_neg (by omega), if_neg (by omega)]
    exact ih (dstep a c) (fun d h => hd d (List.mem_cons_of_mem _ h)) hv'
theorem dval_lt (l : List UInt8) (hd : ∀ c, c ∈ l → isDig c) : ∀ a, dval a l < (a + 1) * 10 ^ l.length := by
  induction l with
  | nil => intro a; show a < (a + 1) * 1; omega
  | cons c r ih =>
    intro a
    have h := ih (fun d h => hd d (List.mem_cons_of_mem _ h)) (dstep a c)
    have hc := hd c (List.mem_cons_self ..)
    unfold isDig at hc
    show dval (dstep a c) r < (a + 1) * 10 ^ (r.length + 1)
    refine Nat.lt_of_lt_of_le h ?_
    rw [Nat.pow_succ, Nat.mul_comm (10 ^ r.length) 10, ← Nat.mul_assoc]
    refine Nat.mul_le_mul_right _ ?_
    unfold dstep; omega
theorem dec_len (n : Nat) : ∀ u, u < 10 ^ (n + 1) → (decDigits u).length ≤ n + 1 := by
  induction n with
  | zero =>
    intro u h
    rw [decDigits, dif_pos (by simpa using h)]
    exact Nat.le_refl _
  | succ n ih =>
    intro u h
    rw [decDigits]
    by_cases h1 : u < 10
    · rw [dif_pos h1]; simp
    · rw [dif_neg h1, List.length_append]
      have e := ih (u / 10) (by rw [Nat.pow_succ] at h; omega)
      simp only [List.length_singleton]
      omega
def numS (l : List UInt8) (most : Int) : Int := if canon l ∧ l.length ≤ 15 ∧ (dval 0 l : Int) ≤ most then (dval 0 l : Int) else -1
def numberF (s : List UInt8) (most : Int) : Int :=
  match Lib.parseUintB 62 s with
  | .ok u => if Lib.decDigits u = s ∧ (u : Int) ≤ most then u else -1
  | _ => -1
theorem number_eq (l : List UInt8) (most : Int) (hm : most < 1000000000000000) : numberF l most = numS l most := by
  unfold numS
  by_cases hc : canon l ∧ l.length ≤ 15
  · have hp : parseUintB 62 l = .ok (dval 0 l) := by
      unfold parseUintB
      rw [if_neg hc.1.1]
      refine parse_ok _ (by decide) l 0 hc.1.2.1 ?_
      have h := dval_lt l hc.1.2.1 0
      have : 10 ^ l.length ≤ 10 ^ 15 := Nat.pow_le_pow_right (by omega) hc.2
      omega
    have hd := canon_dec l.length l rfl hc.1
    unfold numberF
    rw [hp]
    show (if decDigits (dval 0 l) = l ∧ (dval 0 l : Int) ≤ most then ((dval 0 l : Nat) : Int) else -1) = _
    by_cases h : (dval 0 l : Int) ≤ most
    · rw [if_pos ⟨hd, h⟩, if_pos ⟨hc.1, hc.2, h⟩]
    · rw [if_neg (fun x => h x.2), if_neg (fun x => h x.2.2)]
  · rw [if_neg (fun x => hc ⟨x.1, x.2.1⟩)]
    unfold numberF
    cases hp : parseUintB 62 l with
    | ok u =>
      show (if decDigits u = l ∧ (u : Int) ≤ most then (u : Int) else -1) = -1
      by_cases h : decDigits u = l ∧ (u : Int) ≤ most
      · exfalso
        refine hc ⟨by rw [← h.1]; exact (dec_canon u).1, ?_⟩
        rw [← h.1]
        exact dec_len 14 u (by have := h.2; omega)
      · rw [if_neg h]
    | _ => rfl
end Go.Proofs.YtpabggjnkoehfaaDoor.A1
end
section
namespace Go.Proofs.YtpabggjnkoehfaaDoor.ERef
open Go.RowKit Go.Proofs.YtpabggjnkoehfaaDoor.Ext Go.Proofs.YtpabggjnkoehfaaDoorW.PrintWords Go.Proofs.YtpabggjnkoehfaaDoorW.PrintLast Go.Proofs.YtpabggjnkoehfaaDoorW.PrintMore
attribute [local go_sem] max2_int min2_int max_two min_two max_three min_three max_four min_four   
set_option linter.unusedVariables false
set_option linter.unusedSimpArgs false
def errW : Option Int → Value
  | none => .nilIface
  | some c => .iface 0 (.int .i64 c)
theorem errW_none : errW none = .nilIface := rfl
theorem errW_some (c : Int) : errW (some c) = .iface 0 (.int .i64 c) := rfl
end Go.Proofs.YtpabggjnkoehfaaDoor.ERef
end
