/- Part 1 of what the claim's proof stands on: contracts of the program's functions, by walks, and plain laws. -/
import Derived.Test.YtfnbflhoaemmeaaGreatDoorZi0
import Derived.ArgAppend
import Derived.Below
import Derived.BigCall
import Derived.BigGuard
import Derived.BigQuiet
import Derived.ChangeAlike
import Derived.Deep.AppendLies
import Derived.Deep.CutBlock
import Derived.Deep.DeepCutAuto
import Derived.Deep.Draws
import Derived.Deep.LoopGhost
import Derived.Deep.OwnRows
import Derived.Deep.QuietTactic
import Derived.Deep.RegionHeld3
import Derived.Deep.RegionWith
import Derived.Ground.MpProg
import Derived.Ground.Names2Prog
import Derived.KernelRfl
import Derived.LaidMore
import Derived.LaidSub
import Derived.Laws.BitsLemmas
import Derived.Laws.BytesArg
import Derived.Laws.Cover1
import Derived.Laws.Externs
import Derived.Laws.IdiomCopy
import Derived.Laws.MakeOwn
import Derived.Laws.OwnMore
import Derived.Laws.Rows
import Derived.Laws.Slices
import Derived.Laws.StructEq
import Derived.Lay
import Derived.Lib.AppendIntMem
import Derived.Lib.AppendStr
import Derived.Lib.Bytealg
import Derived.Lib.ConvBytes
import Derived.Lib.ItoaMem
import Derived.Lib.LaidTab
import Derived.Lib.LaidU8T
import Derived.Lib.ValidLaws
import Derived.Lib.Walk
import Derived.MakeChecks
import Derived.Maps.AppendAt
import Derived.OrdersHeld
import Derived.OwnWalk
import Derived.RegionTactic
import Derived.RowKit
import Derived.RowKit3
import Derived.Shelf.Bits.Mul64
import Derived.Shelf.LaysC
import Derived.Shelf.LaysM
import Derived.Shelf.Pu.ErrVarParseUint
import Derived.Shelf.Pu.ParseUintPublic10
import Derived.Shelf.Slices.SearchI
import Derived.Shelf.Small.Bits
import Derived.Shelf.Small.Strs
import Derived.Shelf.Small.Utf8
import Derived.Shelf.Small.Wraps
import Derived.Shelf.Strconv.Clone
import Derived.Shelf.Strconv.Itoa0
import Derived.Shelf.Strconv.Itoa1
import Derived.Shelf.Strconv.Itoa2
import Derived.Shelf.Strconv.Itoa3
import Derived.Shelf.Strconv.Lower
import Derived.Shelf.Strconv.ParseUint10
import Derived.Shelf.Strconv.ParseUint10Any
import Derived.Shelf.Strconv.ParseUint10At
import Derived.Shelf.Strconv.ParseUint10Empty
import Derived.Shelf.Strconv.ParseUint10b16
import Derived.Shelf.Strconv.ParseUint10b32
import Derived.Shelf.Strconv.ParseUint10b64
import Derived.Shelf.Strconv.ParseUint10b8
import Derived.Shelf.Strconv.ParseUintEmpty
import Derived.Shelf.Strconv.RangeError
import Derived.Shelf.Strconv.SyntaxError
import Derived.Shelf.Strconv.ToError
import Derived.Shelf.Strconv.ToErrorRange
import Derived.Shelf.Strings.AsciiSet
import Derived.Shelf.Strings.Builder1
import Derived.Shelf.Strings.Builder2
import Derived.Shelf.Strings.Builder2Cap
import Derived.Shelf.Strings.BuilderCap
import Derived.Shelf.Strings.BuilderF
import Derived.Shelf.Strings.BuilderK
import Derived.Shelf.Strings.Cut
import Derived.Shelf.Strings.Prefix
import Derived.Shelf.Strings.Repeat
import Derived.Shelf.Strings.Runes
import Derived.Shelf.Strings.Search1
import Derived.Shelf.Strings.Search2
import Derived.Shelf.Strings.Shaped
import Derived.Shelf.Unicode.Decode
import Derived.Shelf.Unicode.DecodeAny
import Derived.Shelf.Unicode.DecodeLast
import Derived.Shelf.Unicode.DecodeSlow
import Derived.Shelf.Unicode.ValidAny
import Derived.Stop.Joined
import Derived.Stop.LaidErr
import Derived.Tactics
import Derived.Test.YtfnbflhoaemmeaaGreatDoorProg
import Derived.Test.YtfnbflhoaemmeaaGreatDoorRows
import Derived.WalkKit
import Derived.WalkSmall
import Derived.WideLaws
section
namespace Go.Proofs
open Go.Shelf
def Tryz.lays283_ren : Go.Shelf.Ren := ⟨fun | 283 => 121 | n => n, fun | 3 => 3 | 9 => 9 | 4 => 4 | n => n, fun | n => n⟩
theorem Tryz.lays283 : Go.Proofs.Lays.n283 Tryz.prog Tryz.lays283_ren := {
  mixed := by kernel_rfl
  f283 := Tryz.func121.trans (congrArg some (by kernel_rfl))
  t3 := Tryz.underlying3
  a3 := Tryz.isAgg3
  z3 := Tryz.sizeOf3
  v3 := Tryz.zeroValue3
  t4 := Tryz.underlying4
  a4 := Tryz.isAgg4
  z4 := Tryz.sizeOf4
  v4 := Tryz.zeroValue4
  t9 := Tryz.underlying9
  a9 := Tryz.isAgg9
  z9 := Tryz.sizeOf9
  v9 := Tryz.zeroValue9 }
open Go.Lib in
theorem Tryz.internal_strconv_small (i : Nat) (h : i < 100) (w : World) :
    Calls Tryz.prog 121 #[.int .i64 i] w fun e w' => e = .returned (.string ⟨(Lib.decDigits i).toArray⟩) ∧ w' = w := Any.internal_strconv_small Tryz.lays283 i h w
def Tryz.laysM284_ren : Go.Shelf.Ren := ⟨fun | 284 => 122 | 129 => 139 | 317 => 138 | 318 => 140 | n => n, fun | 53 => 83 | 3 => 3 | 212 => 163 | 0 => 0 | 4 => 4 | 46 => 107 | 5 => 5 | 9 => 9 | n => n, fun | 17 => 7 | n => n⟩
theorem Tryz.laysM284 : Go.Proofs.LaysM.n284 Tryz.prog Tryz.laysM284_ren := {
  mixed := by kernel_rfl
  f129 := Tryz.func139.trans (congrArg some (by kernel_rfl))
  f284 := Tryz.func122.trans (congrArg some (by kernel_rfl))
  f317 := Tryz.func138.trans (congrArg some (by kernel_rfl))
  f318 := Tryz.func140.trans (congrArg some (by kernel_rfl))
  t0 := Tryz.underlying0
  a0 := Tryz.isAgg0
  z0 := Tryz.sizeOf0
  v0 := Tryz.zeroValue0
  t3 := Tryz.underlying3
  a3 := Tryz.isAgg3
  z3 := Tryz.sizeOf3
  v3 := Tryz.zeroValue3
  t4 := Tryz.underlying4
  a4 := Tryz.isAgg4
  z4 := Tryz.sizeOf4
  v4 := Tryz.zeroValue4
  t5 := Tryz.underlying5
  a5 := Tryz.isAgg5
  z5 := Tryz.sizeOf5
  v5 := Tryz.zeroValue5
  t9 := Tryz.underlying9
  a9 := Tryz.isAgg9
  z9 := Tryz.sizeOf9
  v9 := Tryz.zeroValue9
  t46 := Tryz.underlying107
  a46 := Tryz.isAgg107
  z46 := Tryz.sizeOf107
  v46 := Tryz.zeroValue107
  t53 := Tryz.underlying83
  a53 := Tryz.isAgg83
  z53 := Tryz.sizeOf83
  v53 := Tryz.zeroValue83
  t212 := Tryz.underlying163
  a212 := Tryz.isAgg163
  z212 := Tryz.sizeOf163
  v212 := Tryz.zeroValue163
  g17 := by kernel_rfl
  i0 := by kernel_rfl
  i3 := by kernel_rfl
  i4 := by kernel_rfl
  i5 := by kernel_rfl
  i9 := by kernel_rfl
  i46 := by kernel_rfl
  i53 := by kernel_rfl
  i212 := by kernel_rfl
  m17 := by kernel_rfl }
open Go.Lib in
theorem Tryz.internal_strconv_numDigits (u : Nat) (h1 : 1 ≤ u) (h2 : u < 18446744073709551616) (w : World) (htab : Lib.TabIs Tryz.prog w "internal/strconv.uint64pow10" .u64 Lib.pow10Tab) :
    Calls Tryz.prog 122 #[.int .u64 u] w fun e w' => e = .returned (.int .i64 (Lib.nDigits u)) ∧ w' = w := Any.internal_strconv_numDigits Tryz.laysM284 u h1 h2 w htab
def Tryz.lays285_ren : Go.Shelf.Ren := ⟨fun | 285 => 123 | n => n, fun | 37 => 118 | 53 => 83 | 3 => 3 | 4 => 4 | 51 => 141 | 9 => 9 | 5 => 5 | 0 => 0 | n => n, fun | n => n⟩
theorem Tryz.lays285 : Go.Proofs.Lays.n285 Tryz.prog Tryz.lays285_ren := {
  mixed := by kernel_rfl
  f285 := Tryz.func123.trans (congrArg some (by kernel_rfl))
  t0 := Tryz.underlying0
  a0 := Tryz.isAgg0
  z0 := Tryz.sizeOf0
  v0 := Tryz.zeroValue0
  t3 := Tryz.underlying3
  a3 := Tryz.isAgg3
  z3 := Tryz.sizeOf3
  v3 := Tryz.zeroValue3
  t4 := Tryz.underlying4
  a4 := Tryz.isAgg4
  z4 := Tryz.sizeOf4
  v4 := Tryz.zeroValue4
  t5 := Tryz.underlying5
  a5 := Tryz.isAgg5
  z5 := Tryz.sizeOf5
  v5 := Tryz.zeroValue5
  t9 := Tryz.underlying9
  a9 := Tryz.isAgg9
  z9 := Tryz.sizeOf9
  v9 := Tryz.zeroValue9
  t37 := Tryz.underlying118
  a37 := Tryz.isAgg118
  z37 := Tryz.sizeOf118
  v37 := Tryz.zeroValue118
  t51 := Tryz.underlying141
  a51 := Tryz.isAgg141
  z51 := Tryz.sizeOf141
  v51 := Tryz.zeroValue141
  t53 := Tryz.underlying83
  a53 := Tryz.isAgg83
  z53 := Tryz.sizeOf83
  v53 := Tryz.zeroValue83 }
open Go.RowKit Go.Sort Go.Lib in
theorem Tryz.internal_strconv_formatBase10 (blk off cap : Nat) (u : Nat) (d : Array UInt8) (w : World) (hH : Holds (fun (b : UInt8) => Value.int .u8 (b.toNat : Int)) w blk off d) (hu : u < 10 ^ d.size) (hu64 : u < 18446744073709551616) (hsz : d.size < 4611686018427387904) :
    Calls Tryz.prog 123 #[.slice (some ⟨blk, off, none⟩) d.size cap, .int .u64 u] w fun e w' =>
      e = .returned (.tuple #[]) ∧ ∃ (n v' : Nat) (dk : Array UInt8), w' = (putRow (fun (b : UInt8) => Value.int .u8 (b.toNat : Int)) w blk off dk).drewN n ∧ FmtInv d.size u 0 v' dk := Any.internal_strconv_formatBase10 Tryz.lays285 blk off cap u d w hH hu hu64 hsz
def Tryz.laysPu14_ren : Go.Shelf.Ren := ⟨fun | 14 => 69 | 16 => 94 | 17 => 95 | 19 => 112 | 20 => 113 | 21 => 114 | 22 => 115 | 23 => 116 | 24 => 117 | 25 => 133 | 27 => 135 | 26 => 134 | 28 => 148 | 29 => 154 | 30 => 121 | 31 => 122 | 32 => 123 | 33 => 124 | 35 => 139 | 34 => 138 | 36 => 140 | 37 => 141 | 38 => 142 | 39 => 149 | 40 => 150 | n => n, fun | 9 => 9 | 3 => 3 | 22 => 83 | 24 => 85 | 25 => 86 | 4 => 4 | 34 => 136 | 5 => 5 | 36 => 107 | 37 => 118 | 0 => 0 | 39 => 138 | 21 => 21 | 44 => 158 | 47 => 144 | 50 => 170 | 48 => 168 | 2 => 2 | 52 => 145 | 55 => 148 | 59 => 163 | 60 => 141 | 20 => 20 | 61 => 164 | 65 => 174 | 66 => 175 | 67 => 125 | n => n, fun | 0 => 5 | 1 => 6 | 2 => 7 | 3 => 8 | 4 => 9 | n => n⟩
theorem Tryz.laysPu14 : Go.Proofs.LaysPu.n14 Tryz.prog Tryz.laysPu14_ren := {
  mixed := by kernel_rfl
  f14 := Tryz.func69.trans (congrArg some (by kernel_rfl))
  f16 := Tryz.func94.trans (congrArg some (by kernel_rfl))
  f17 := Tryz.func95.trans (congrArg some (by kernel_rfl))
  f19 := Tryz.func112.trans (congrArg some (by kernel_rfl))
  f20 := Tryz.func113.trans (congrArg some (by kernel_rfl))
  f21 := Tryz.func114.trans (congrArg some (by kernel_rfl))
  f22 := Tryz.func115.trans (congrArg some (by kernel_rfl))
  f23 := Tryz.func116.trans (congrArg some (by kernel_rfl))
  f24 := Tryz.func117.trans (congrArg some (by kernel_rfl))
  f25 := Tryz.func133.trans (congrArg some (by kernel_rfl))
  f26 := Tryz.func134.trans (congrArg some (by kernel_rfl))
  f27 := Tryz.func135.trans (congrArg some (by kernel_rfl))
  f28 := Tryz.func148.trans (congrArg some (by kernel_rfl))
  f29 := Tryz.func154.trans (congrArg some (by kernel_rfl))
  f30 := Tryz.func121.trans (congrArg some (by kernel_rfl))
  f31 := Tryz.func122.trans (congrArg some (by kernel_rfl))
  f32 := Tryz.func123.trans (congrArg some (by kernel_rfl))
  f33 := Tryz.func124.trans (congrArg some (by kernel_rfl))
  f34 := Tryz.func138.trans (congrArg some (by kernel_rfl))
  f35 := Tryz.func139.trans (congrArg some (by kernel_rfl))
  f36 := Tryz.func140.trans (congrArg some (by kernel_rfl))
  f37 := Tryz.func141.trans (congrArg some (by kernel_rfl))
  f38 := Tryz.func142.trans (congrArg some (by kernel_rfl))
  f39 := Tryz.func149.trans (congrArg some (by kernel_rfl))
  f40 := Tryz.func150.trans (congrArg some (by kernel_rfl))
  t0 := Tryz.underlying0
  a0 := Tryz.isAgg0
  z0 := Tryz.sizeOf0
  v0 := Tryz.zeroValue0
  i0 := by kernel_rfl
  t2 := Tryz.underlying2
  a2 := Tryz.isAgg2
  z2 := Tryz.sizeOf2
  v2 := Tryz.zeroValue2
  i2 := by kernel_rfl
  t3 := Tryz.underlying3
  a3 := Tryz.isAgg3
  z3 := Tryz.sizeOf3
  v3 := Tryz.zeroValue3
  i3 := by kernel_rfl
  t4 := Tryz.underlying4
  a4 := Tryz.isAgg4
  z4 := Tryz.sizeOf4
  v4 := Tryz.zeroValue4
  i4 := by kernel_rfl
  t5 := Tryz.underlying5
  a5 := Tryz.isAgg5
  z5 := Tryz.sizeOf5
  v5 := Tryz.zeroValue5
  i5 := by kernel_rfl
  t9 := Tryz.underlying9
  a9 := Tryz.isAgg9
  z9 := Tryz.sizeOf9
  v9 := Tryz.zeroValue9
  i9 := by kernel_rfl
  t20 := Tryz.underlying20
  a20 := Tryz.isAgg20
  z20 := Tryz.sizeOf20
  v20 := Tryz.zeroValue20
  i20 := by kernel_rfl
  t21 := Tryz.underlying21
  a21 := Tryz.isAgg21
  z21 := Tryz.sizeOf21
  v21 := Tryz.zeroValue21
  i21 := by kernel_rfl
  t22 := Tryz.underlying83
  a22 := Tryz.isAgg83
  z22 := Tryz.sizeOf83
  v22 := Tryz.zeroValue83
  i22 := by kernel_rfl
  t24 := Tryz.underlying85
  a24 := Tryz.isAgg85
  z24 := Tryz.sizeOf85
  v24 := Tryz.zeroValue85
  i24 := by kernel_rfl
  t25 := Tryz.underlying86
  a25 := Tryz.isAgg86
  z25 := Tryz.sizeOf86
  v25 := Tryz.zeroValue86
  i25 := by kernel_rfl
  t34 := Tryz.underlying136
  a34 := Tryz.isAgg136
  z34 := Tryz.sizeOf136
  v34 := Tryz.zeroValue136
  i34 := by kernel_rfl
  c34 := by kernel_rfl
  t36 := Tryz.underlying107
  a36 := Tryz.isAgg107
  z36 := Tryz.sizeOf107
  v36 := Tryz.zeroValue107
  i36 := by kernel_rfl
  t37 := Tryz.underlying118
  a37 := Tryz.isAgg118
  z37 := Tryz.sizeOf118
  v37 := Tryz.zeroValue118
  i37 := by kernel_rfl
  t39 := Tryz.underlying138
  a39 := Tryz.isAgg138
  z39 := Tryz.sizeOf138
  v39 := Tryz.zeroValue138
  i39 := by kernel_rfl
  t44 := Tryz.underlying158
  a44 := Tryz.isAgg158
  z44 := Tryz.sizeOf158
  v44 := Tryz.zeroValue158
  i44 := by kernel_rfl
  t47 := Tryz.underlying144
  a47 := Tryz.isAgg144
  z47 := Tryz.sizeOf144
  v47 := Tryz.zeroValue144
  i47 := by kernel_rfl
  t48 := Tryz.underlying168
  a48 := Tryz.isAgg168
  z48 := Tryz.sizeOf168
  v48 := Tryz.zeroValue168
  i48 := by kernel_rfl
  t50 := Tryz.underlying170
  a50 := Tryz.isAgg170
  z50 := Tryz.sizeOf170
  v50 := Tryz.zeroValue170
  i50 := by kernel_rfl
  t52 := Tryz.underlying145
  a52 := Tryz.isAgg145
  z52 := Tryz.sizeOf145
  v52 := Tryz.zeroValue145
  i52 := by kernel_rfl
  t55 := Tryz.underlying148
  a55 := Tryz.isAgg148
  z55 := Tryz.sizeOf148
  v55 := Tryz.zeroValue148
  i55 := by kernel_rfl
  t59 := Tryz.underlying163
  a59 := Tryz.isAgg163
  z59 := Tryz.sizeOf163
  v59 := Tryz.zeroValue163
  i59 := by kernel_rfl
  t60 := Tryz.underlying141
  a60 := Tryz.isAgg141
  z60 := Tryz.sizeOf141
  v60 := Tryz.zeroValue141
  i60 := by kernel_rfl
  t61 := Tryz.underlying164
  a61 := Tryz.isAgg164
  z61 := Tryz.sizeOf164
  t65 := Tryz.underlying174
  a65 := Tryz.isAgg174
  z65 := Tryz.sizeOf174
  v65 := Tryz.zeroValue174
  i65 := by kernel_rfl
  t66 := Tryz.underlying175
  a66 := Tryz.isAgg175
  z66 := Tryz.sizeOf175
  v66 := Tryz.zeroValue175
  i66 := by kernel_rfl
  t67 := Tryz.underlying125
  a67 := Tryz.isAgg125
  z67 := Tryz.sizeOf125
  v67 := Tryz.zeroValue125
  i67 := by kernel_rfl
  g0 := by kernel_rfl
  m0 := by kernel_rfl
  g1 := by kernel_rfl
  m1 := by kernel_rfl
  g2 := by kernel_rfl
  m2 := by kernel_rfl
  g3 := by kernel_rfl
  m3 := by kernel_rfl
  g4 := by kernel_rfl
  m4 := by kernel_rfl }
open Go.RowKit in
theorem Tryz.strconv_ParseUint_10_at64_ok (s : ByteArray) (hmax : s.size ≤ 9223372036854775806) (u : Nat) (h : Lib.parseUintB 64 s.data.toList = .ok u) (w : World) :
    Calls Tryz.prog 69 #[.string s, .int .i64 10, .int .i64 64] w fun e w' => e = .returned (.tuple #[.int .u64 u, .nilIface]) ∧ (w' = w ∨ w' = Lib.bytesWorld w 5 s) := Any.strconv_ParseUint_10_at64_ok Tryz.laysPu14 s hmax u h w
open Go.RowKit in
theorem Tryz.strconv_ParseUint_10_at64_syntax (s : ByteArray) (hlim : s.size ≤ 281474976710656) (h : Lib.parseUintB 64 s.data.toList = .syntax) (ev : Value) (w : World) (hv : w.cell? ⟨5, 0, none⟩ = some ev) (hev : ev = .nilIface ∨ ∃ te pe, ev = .iface te pe) :
    Calls Tryz.prog 69 #[.string s, .int .i64 10, .int .i64 64] w fun e w' => ∃ N, e = .returned (.tuple #[.int .u64 0, .iface 138 (.pointer (some ⟨N, 0, none⟩))]) ∧ w.heap.size ≤ N ∧ w'.heap[N]? = some (.cells #[.string ⟨#[80, 97, 114, 115, 101, 85, 105, 110, 116]⟩, .string s, ev] 158 (0, 0)) ∧ Below w.heap.size w w' := Any.strconv_ParseUint_10_at64_syntax Tryz.laysPu14 s hlim h ev w hv hev
open Go.RowKit in
theorem Tryz.strconv_ParseUint_10_at64_range (s : ByteArray) (hlim : s.size ≤ 281474976710656) (h : Lib.parseUintB 64 s.data.toList = .range) (ev : Value) (w : World) (hv : w.cell? ⟨6, 0, none⟩ = some ev) (hev : ev = .nilIface ∨ ∃ te pe, ev = .iface te pe) :
    Calls Tryz.prog 69 #[.string s, .int .i64 10, .int .i64 64] w fun e w' => ∃ N, e = .returned (.tuple #[.int .u64 18446744073709551615, .iface 138 (.pointer (some ⟨N, 0, none⟩))]) ∧ w.heap.size ≤ N ∧ w'.heap[N]? = some (.cells #[.string ⟨#[80, 97, 114, 115, 101, 85, 105, 110, 116]⟩, .string s, ev] 158 (0, 0)) ∧ Below w.heap.size w w' := Any.strconv_ParseUint_10_at64_range Tryz.laysPu14 s hlim h ev w hv hev
def Tryz.lays145_ren : Go.Shelf.Ren := ⟨fun | 145 => 67 | 220 => 93 | 219 => 111 | 217 => 129 | 225 => 130 | 224 => 131 | 267 => 132 | 266 => 146 | 314 => 147 | n => n, fun | 9 => 9 | 4 => 4 | 59 => 81 | 3 => 3 | 5 => 5 | 46 => 107 | 146 => 142 | 51 => 141 | n => n, fun | 1 => 2 | n => n⟩
theorem Tryz.lays145 : Go.Proofs.Lays.n145 Tryz.prog Tryz.lays145_ren := {
  mixed := by kernel_rfl
  f145 := Tryz.func67.trans (congrArg some (by kernel_rfl))
  f217 := Tryz.func129.trans (congrArg some (by kernel_rfl))
  f219 := Tryz.func111.trans (congrArg some (by kernel_rfl))
  f220 := Tryz.func93.trans (congrArg some (by kernel_rfl))
  f224 := Tryz.func131.trans (congrArg some (by kernel_rfl))
  f225 := Tryz.func130.trans (congrArg some (by kernel_rfl))
  f266 := Tryz.func146.trans (congrArg some (by kernel_rfl))
  f267 := Tryz.func132.trans (congrArg some (by kernel_rfl))
  f314 := Tryz.func147.trans (congrArg some (by kernel_rfl))
  t3 := Tryz.underlying3
  a3 := Tryz.isAgg3
  z3 := Tryz.sizeOf3
  v3 := Tryz.zeroValue3
  t4 := Tryz.underlying4
  a4 := Tryz.isAgg4
  z4 := Tryz.sizeOf4
  v4 := Tryz.zeroValue4
  t5 := Tryz.underlying5
  a5 := Tryz.isAgg5
  z5 := Tryz.sizeOf5
  v5 := Tryz.zeroValue5
  t9 := Tryz.underlying9
  a9 := Tryz.isAgg9
  z9 := Tryz.sizeOf9
  v9 := Tryz.zeroValue9
  t46 := Tryz.underlying107
  a46 := Tryz.isAgg107
  z46 := Tryz.sizeOf107
  v46 := Tryz.zeroValue107
  t51 := Tryz.underlying141
  a51 := Tryz.isAgg141
  z51 := Tryz.sizeOf141
  v51 := Tryz.zeroValue141
  t59 := Tryz.underlying81
  a59 := Tryz.isAgg81
  z59 := Tryz.sizeOf81
  v59 := Tryz.zeroValue81
  t146 := Tryz.underlying142
  a146 := Tryz.isAgg142
  z146 := Tryz.sizeOf142
  v146 := Tryz.zeroValue142
  g1 := by kernel_rfl }
open Go.RowKit Go.Lib in
theorem Tryz.strings_Cut (s sep : ByteArray) (m : Int) (w : World) (hs : s.size < 4294967281) (hm : w.cell? ⟨2, 0, none⟩ = some (.int .i64 m)) :
    Calls Tryz.prog 67 #[.string s, .string sep] w fun e w' => e = .returned (.tuple #[.string ⟨(Lib.cut s.data.toList sep.data.toList).1.toArray⟩, .string ⟨(Lib.cut s.data.toList sep.data.toList).2.1.toArray⟩, .bool (Lib.cut s.data.toList sep.data.toList).2.2]) ∧ ∃ n, w' = w.drewN n := Any.strings_Cut Tryz.lays145 s sep m w hs hm
def Tryz.laysM145_ren : Go.Shelf.Ren := ⟨fun | 145 => 67 | 220 => 93 | 219 => 111 | 217 => 129 | 225 => 130 | 224 => 131 | 267 => 132 | 266 => 146 | 314 => 147 | n => n, fun | 9 => 9 | 4 => 4 | 59 => 81 | 3 => 3 | 5 => 5 | 46 => 107 | 146 => 142 | 51 => 141 | n => n, fun | 1 => 2 | n => n⟩
theorem Tryz.laysM145 : Go.Proofs.LaysM.n145 Tryz.prog Tryz.laysM145_ren := {
  mixed := by kernel_rfl
  f145 := Tryz.func67.trans (congrArg some (by kernel_rfl))
  f217 := Tryz.func129.trans (congrArg some (by kernel_rfl))
  f219 := Tryz.func111.trans (congrArg some (by kernel_rfl))
  f220 := Tryz.func93.trans (congrArg some (by kernel_rfl))
  f224 := Tryz.func131.trans (congrArg some (by kernel_rfl))
  f225 := Tryz.func130.trans (congrArg some (by kernel_rfl))
  f266 := Tryz.func146.trans (congrArg some (by kernel_rfl))
  f267 := Tryz.func132.trans (congrArg some (by kernel_rfl))
  f314 := Tryz.func147.trans (congrArg some (by kernel_rfl))
  t3 := Tryz.underlying3
  a3 := Tryz.isAgg3
  z3 := Tryz.sizeOf3
  v3 := Tryz.zeroValue3
  t4 := Tryz.underlying4
  a4 := Tryz.isAgg4
  z4 := Tryz.sizeOf4
  v4 := Tryz.zeroValue4
  t5 := Tryz.underlying5
  a5 := Tryz.isAgg5
  z5 := Tryz.sizeOf5
  v5 := Tryz.zeroValue5
  t9 := Tryz.underlying9
  a9 := Tryz.isAgg9
  z9 := Tryz.sizeOf9
  v9 := Tryz.zeroValue9
  t46 := Tryz.underlying107
  a46 := Tryz.isAgg107
  z46 := Tryz.sizeOf107
  v46 := Tryz.zeroValue107
  t51 := Tryz.underlying141
  a51 := Tryz.isAgg141
  z51 := Tryz.sizeOf141
  v51 := Tryz.zeroValue141
  t59 := Tryz.underlying81
  a59 := Tryz.isAgg81
  z59 := Tryz.sizeOf81
  v59 := Tryz.zeroValue81
  t146 := Tryz.underlying142
  a146 := Tryz.isAgg142
  z146 := Tryz.sizeOf142
  v146 := Tryz.zeroValue142
  g1 := by kernel_rfl
  i3 := by kernel_rfl
  i4 := by kernel_rfl
  i5 := by kernel_rfl
  i9 := by kernel_rfl
  i46 := by kernel_rfl
  i51 := by kernel_rfl
  i59 := by kernel_rfl
  i146 := by kernel_rfl
  m1 := by kernel_rfl
  s1_3 := fun w h => Go.Proofs.cell_of_shapedOpen_int (zero := #[.int .i64 0]) (t := 3) h (of_decide_eq_true (by kernel_rfl)) (by kernel_rfl) rfl (by kernel_rfl) (by kernel_rfl) Tryz.underlying3 }
def Tryz.lays105_ren : Go.Shelf.Ren := ⟨fun | 105 => 70 | 212 => 96 | 99 => 97 | 165 => 98 | 166 => 99 | 170 => 100 | 169 => 101 | 263 => 118 | 264 => 108 | 206 => 110 | 240 => 119 | 241 => 120 | 276 => 136 | 277 => 137 | n => n, fun | 9 => 9 | 3 => 3 | 4 => 4 | 20 => 20 | 0 => 0 | 46 => 107 | 109 => 114 | 5 => 5 | 72 => 120 | 76 => 122 | 51 => 141 | 146 => 142 | 53 => 83 | 148 => 133 | 70 => 117 | 37 => 118 | 75 => 85 | 127 => 144 | 164 => 160 | 80 => 125 | n => n, fun | n => n⟩
theorem Tryz.lays105 : Go.Proofs.Lays.n105 Tryz.prog Tryz.lays105_ren := {
  mixed := by kernel_rfl
  f99 := Tryz.func97.trans (congrArg some (by kernel_rfl))
  f105 := Tryz.func70.trans (congrArg some (by kernel_rfl))
  f165 := Tryz.func98.trans (congrArg some (by kernel_rfl))
  f166 := Tryz.func99.trans (congrArg some (by kernel_rfl))
  f169 := Tryz.func101.trans (congrArg some (by kernel_rfl))
  f170 := Tryz.func100.trans (congrArg some (by kernel_rfl))
  f206 := Tryz.func110.trans (congrArg some (by kernel_rfl))
  f212 := Tryz.func96.trans (congrArg some (by kernel_rfl))
  f240 := Tryz.func119.trans (congrArg some (by kernel_rfl))
  f241 := Tryz.func120.trans (congrArg some (by kernel_rfl))
  f263 := Tryz.func118.trans (congrArg some (by kernel_rfl))
  f264 := Tryz.func108.trans (congrArg some (by kernel_rfl))
  f276 := Tryz.func136.trans (congrArg some (by kernel_rfl))
  f277 := Tryz.func137.trans (congrArg some (by kernel_rfl))
  t0 := Tryz.underlying0
  a0 := Tryz.isAgg0
  z0 := Tryz.sizeOf0
  v0 := Tryz.zeroValue0
  t3 := Tryz.underlying3
  a3 := Tryz.isAgg3
  z3 := Tryz.sizeOf3
  v3 := Tryz.zeroValue3
  t4 := Tryz.underlying4
  a4 := Tryz.isAgg4
  z4 := Tryz.sizeOf4
  v4 := Tryz.zeroValue4
  t5 := Tryz.underlying5
  a5 := Tryz.isAgg5
  z5 := Tryz.sizeOf5
  v5 := Tryz.zeroValue5
  t9 := Tryz.underlying9
  a9 := Tryz.isAgg9
  z9 := Tryz.sizeOf9
  v9 := Tryz.zeroValue9
  t20 := Tryz.underlying20
  a20 := Tryz.isAgg20
  z20 := Tryz.sizeOf20
  v20 := Tryz.zeroValue20
  t37 := Tryz.underlying118
  a37 := Tryz.isAgg118
  z37 := Tryz.sizeOf118
  v37 := Tryz.zeroValue118
  t46 := Tryz.underlying107
  a46 := Tryz.isAgg107
  z46 := Tryz.sizeOf107
  v46 := Tryz.zeroValue107
  t51 := Tryz.underlying141
  a51 := Tryz.isAgg141
  z51 := Tryz.sizeOf141
  v51 := Tryz.zeroValue141
  t53 := Tryz.underlying83
  a53 := Tryz.isAgg83
  z53 := Tryz.sizeOf83
  v53 := Tryz.zeroValue83
  t70 := Tryz.underlying117
  a70 := Tryz.isAgg117
  z70 := Tryz.sizeOf117
  v70 := Tryz.zeroValue117
  t72 := Tryz.underlying120
  a72 := Tryz.isAgg120
  z72 := Tryz.sizeOf120
  v72 := Tryz.zeroValue120
  t75 := Tryz.underlying85
  a75 := Tryz.isAgg85
  z75 := Tryz.sizeOf85
  v75 := Tryz.zeroValue85
  t76 := Tryz.underlying122
  a76 := Tryz.isAgg122
  z76 := Tryz.sizeOf122
  v76 := Tryz.zeroValue122
  t109 := Tryz.underlying114
  a109 := Tryz.isAgg114
  z109 := Tryz.sizeOf114
  v109 := Tryz.zeroValue114
  t127 := Tryz.underlying144
  a127 := Tryz.isAgg144
  z127 := Tryz.sizeOf144
  v127 := Tryz.zeroValue144
  t146 := Tryz.underlying142
  a146 := Tryz.isAgg142
  z146 := Tryz.sizeOf142
  v146 := Tryz.zeroValue142
  t148 := Tryz.underlying133
  a148 := Tryz.isAgg133
  z148 := Tryz.sizeOf133
  v148 := Tryz.zeroValue133
  t164 := Tryz.underlying160
  a164 := Tryz.isAgg160
  z164 := Tryz.sizeOf160
  v164 := Tryz.zeroValue160 }
theorem Tryz.Builder_Extra_105 : Builder.Extra Tryz.prog Tryz.lays105_ren := {
  sizeBuilder := by kernel_rfl
  liesBuilder := by kernel_rfl
  t5 := Tryz.underlying5
  a5 := Tryz.isAgg5
  z5 := Tryz.sizeOf5
  v5 := Tryz.zeroValue5
  infoByte := by kernel_rfl
  cellsByte := by kernel_rfl
  sizeByte := by kernel_rfl
  neB5 := by decide }
open Go.RowKit Go.Lib in
theorem Tryz.strings_Repeat (s : ByteArray) (c : Nat) (w : World) (hc : c ≤ 9223372036854775807) (hlen : s.size * c ≤ 140737488355328) :
    Calls Tryz.prog 70 #[.string s, .int .i64 c] w fun e w' => e = .returned (.string ⟨(Lib.repeatL s.data.toList c).toArray⟩) ∧ Below w.heap.size w w' := Any.strings_Repeat Tryz.lays105 Tryz.Builder_Extra_105 s c w hc hlen
def Tryz.lays196_ren : Go.Shelf.Ren := ⟨fun | 196 => 49 | 259 => 81 | n => n, fun | 9 => 9 | 4 => 4 | 3 => 3 | 5 => 5 | 12 => 12 | 119 => 103 | 0 => 0 | 46 => 107 | 139 => 106 | 138 => 105 | 53 => 83 | n => n, fun | 3 => 0 | 4 => 1 | n => n⟩
theorem Tryz.lays196 : Go.Proofs.Lays.n196 Tryz.prog Tryz.lays196_ren := {
  mixed := by kernel_rfl
  f196 := Tryz.func49.trans (congrArg some (by kernel_rfl))
  f259 := Tryz.func81.trans (congrArg some (by kernel_rfl))
  t0 := Tryz.underlying0
  a0 := Tryz.isAgg0
  z0 := Tryz.sizeOf0
  v0 := Tryz.zeroValue0
  t3 := Tryz.underlying3
  a3 := Tryz.isAgg3
  z3 := Tryz.sizeOf3
  v3 := Tryz.zeroValue3
  t4 := Tryz.underlying4
  a4 := Tryz.isAgg4
  z4 := Tryz.sizeOf4
  v4 := Tryz.zeroValue4
  t5 := Tryz.underlying5
  a5 := Tryz.isAgg5
  z5 := Tryz.sizeOf5
  v5 := Tryz.zeroValue5
  t9 := Tryz.underlying9
  a9 := Tryz.isAgg9
  z9 := Tryz.sizeOf9
  v9 := Tryz.zeroValue9
  t12 := Tryz.underlying12
  a12 := Tryz.isAgg12
  z12 := Tryz.sizeOf12
  v12 := Tryz.zeroValue12
  t46 := Tryz.underlying107
  a46 := Tryz.isAgg107
  z46 := Tryz.sizeOf107
  v46 := Tryz.zeroValue107
  t53 := Tryz.underlying83
  a53 := Tryz.isAgg83
  z53 := Tryz.sizeOf83
  v53 := Tryz.zeroValue83
  t119 := Tryz.underlying103
  a119 := Tryz.isAgg103
  z119 := Tryz.sizeOf103
  t138 := Tryz.underlying105
  a138 := Tryz.isAgg105
  z138 := Tryz.sizeOf105
  v138 := Tryz.zeroValue105
  t139 := Tryz.underlying106
  a139 := Tryz.isAgg106
  z139 := Tryz.sizeOf106
  v139 := Tryz.zeroValue106
  g3 := by kernel_rfl
  g4 := by kernel_rfl }
open Go.RowKit in
theorem Tryz.utf8_ValidString (s : ByteArray) (w : World) (hs : s.size ≤ 9223372036854775807) (hT : Lib.Utf8Tabs (Tryz.lays196_ren.g 3) (Tryz.lays196_ren.g 4) w) :
    Calls Tryz.prog 49 #[.string s] w fun e w' => e = .returned (.bool (Lib.validD s.data.toList)) ∧ Below w.heap.size w w' := Any.utf8_ValidString Tryz.lays196 s w hs hT
end Go.Proofs
end
section
namespace Go.Proofs
open Go.Shelf Go.RowKit Go.Sort Go.Lib
theorem holds_zero0 (w : World) (T : TypeId) (nd : Nat) (hs : nd ≤ 24) : Holds (fun (b : UInt8) => Value.int .u8 (b.toNat : Int)) (w.alloc (.cells zeros24 T)) w.heap.size 0 (Array.replicate nd (0 : UInt8)) := fun j hj => by
  have hj' : j < nd := by simpa using hj
  refine ⟨?_, World.frozen?_alloc_new _ _ _ _⟩
  rw [World.cell?_alloc_new, zeros24_at _ (by omega), getElem!_pos _ j hj]
  simp
theorem fin_pos0 (w : World) (o : Obj) (dk : Array UInt8) (k : Nat) : ∃ os, (putRow (fun (b : UInt8) => Value.int .u8 (b.toNat : Int)) (w.alloc o) w.heap.size 0 dk).drewN k = grow (w.drewN k) os := by
  rw [alloc_eq_grow]
  obtain ⟨os', _, e⟩ := putRow_grow_new (fun (b : UInt8) => Value.int .u8 (b.toNat : Int)) w #[o] w.heap.size 0 dk (Nat.le_refl _)
  exact ⟨os', by rw [e]; rfl⟩
set_option maxHeartbeats 6400000 in
set_option maxRecDepth 100000 in
theorem Tryz.internal_FormatUint_10 (u : Nat) (hu : u < 18446744073709551616) (w : World) (htab : Lib.TabIs Tryz.prog w "internal/strconv.uint64pow10" .u64 Lib.pow10Tab) :
    Calls Tryz.prog 102 #[.int .u64 u, .int .i64 10] w fun e w' => e = .returned (.string ⟨(Lib.decDigits u).toArray⟩) ∧ ∃ k os, w' = grow (w.drewN k) os := by
  by_cases hs : u < 100
  · go_enter Tryz.func102, Tryz.ntmps102
    go_wp2_with (go_at_call 121; refine (Tryz.internal_strconv_small u hs _).mono ?_; rintro e w' ⟨rfl, rfl⟩)
    go_ret
    exact ⟨rfl, 0, #[], by simp [World.drewN_zero]⟩
  · have hu1 : 1 ≤ u := by omega
    have hnd20 : Lib.nDigits u ≤ 20 := by have := Lib.numDigits_eq u hu1 hu; split at this <;> omega
    have hb3 : Lib.nDigits u ≤ 23 := by omega
    have hal : Tryz.prog.arrayLen 145 = 24 := by kernel_rfl
    have hsl1 : ∀ W, (Instr.sliceAt 145 (.pointer (some ⟨w.heap.size, 0, none⟩)) none (some (.int .i64 (Lib.nDigits u : Int))) none).run Tryz.prog W = .ok (.slice (some ⟨w.heap.size, 0, none⟩) (Lib.nDigits u) 24) W := fun W => by
      rw [run_sliceAt_array_h W 145 ⟨w.heap.size, 0, none⟩ (by simp [Program.arrayLen, Program.elem, Tryz.underlying145]) .i64 (Lib.nDigits u : Int) (by omega) (by rw [hal]; omega)]
      go_simp
    have hH0 := holds_zero0 w 145 (Lib.nDigits u) (by omega)
    have hfmt := Tryz.internal_strconv_formatBase10 w.heap.size 0 24 u (Array.replicate (Lib.nDigits u) 0) (w.alloc (.cells Lib.zeros24 145)) hH0 (by rw [Array.size_replicate]; exact Lib.lt_pow_nDigits u) hu (by rw [Array.size_replicate]; omega)
    rw [Array.size_replicate] at hfmt
    have HH0 := Lib.hid hH0
    clear hH0 hal
    go_enter Tryz.func102, Tryz.ntmps102
    go_wp2_with (first
      | (go_at_call 122; refine (Tryz.internal_strconv_numDigits u hu1 hu _ (Lib.tabIs_alloc htab _)).mono ?_; rintro e w' ⟨rfl, rfl⟩))
    go_at_call 123
    refine hfmt.mono ?_
    rintro e w' ⟨rfl, k, v', dk, rfl, hF⟩
    have hcv : (convert 118 9 (.slice (some ⟨w.heap.size, 0, none⟩) (Lib.nDigits u) 24)).run Tryz.prog ((putRow (fun (b : UInt8) => Value.int .u8 (b.toNat : Int)) (w.alloc (.cells Lib.zeros24 145)) w.heap.size 0 dk).drewN k) = .ok (.string ⟨(Lib.decDigits u).toArray⟩) ((putRow (fun (b : UInt8) => Value.int .u8 (b.toNat : Int)) (w.alloc (.cells Lib.zeros24 145)) w.heap.size 0 dk).drewN k) := by
      have h := run_convert_bytes_back (P := Tryz.prog) ((putRow (fun (b : UInt8) => Value.int .u8 (b.toNat : Int)) (w.alloc (.cells Lib.zeros24 145)) w.heap.size 0 dk).drewN k) 118 9 5 ⟨w.heap.size, 0, none⟩ 24 (Lib.decDigits u) Tryz.underlying118 Tryz.underlying5 Tryz.underlying9 (fun j hj => by
        rw [Lib.row_is_numeral hF j hj, Lib.add_plain, World.cell?_drewN]
        exact cell?_putRow (fun (b : UInt8) => Value.int .u8 (b.toNat : Int)) _ w.heap.size 0 _ dk HH0.out (by rw [hF.size, Array.size_replicate]) j (by rw [hF.size]; rw [Lib.decDigits_length] at hj; exact hj))
      rw [Lib.decDigits_length] at h
      exact h
    go_wp2
    go_ret
    obtain ⟨os, eo⟩ := fin_pos0 w (.cells Lib.zeros24 145) dk k
    exact ⟨rfl, k, os, eo⟩
end Go.Proofs
end
section
namespace Go.Proofs.YtfnbflhoaemmeaaGreatDoor.EFxA
open Go.RowKit  Go.Proofs.YtfnbflhoaemmeaaGreatDoorW.PrintWords Go.Proofs.YtfnbflhoaemmeaaGreatDoorW.PrintLast Go.Proofs.YtfnbflhoaemmeaaGreatDoorW.PrintMore
attribute [local go_sem] max2_int min2_int max_two min_two max_three min_three max_four min_four   
set_option linter.unusedVariables false
set_option linter.unusedSimpArgs false
def errW : Option Int → Value
  | none => .nilIface
  | some c => .iface 0 (.int .i64 c)
theorem errW_none : errW none = .nilIface := rfl
theorem errW_some (c : Int) : errW (some c) = .iface 0 (.int .i64 c) := rfl
end Go.Proofs.YtfnbflhoaemmeaaGreatDoor.EFxA
end
section
namespace Go.Proofs.YtfnbflhoaemmeaaGreatDoor.EFxA
open Go.RowKit  Go.Proofs.YtfnbflhoaemmeaaGreatDoorW.PrintWords Go.Proofs.YtfnbflhoaemmeaaGreatDoorW.PrintLast Go.Proofs.YtfnbflhoaemmeaaGreatDoorW.PrintMore
attribute [local go_sem] max2_int min2_int max_two min_two max_three min_three max_four min_four   
set_option linter.unusedVariables false
set_option linter.unusedSimpArgs false
def fixnum_plain.l0 : Nat → ByteArray → Int → Int → Option (Bool)
 | 0, _, _, _ => none
 | k + 1, x0, x5, x6 => if x6 < x5 then (if 0 ≤ x6 then (if x6 < (x0.size : Int) then (if (bt x0 x6) < 48 then (some false) else (if (bt x0 x6) > 57 then (some false) else (fixnum_plain.l0 k x0 x5 (wrap64 (x6 + 1))))) else (none)) else (none)) else (some (x0.toList != ([] : List UInt8)))
def fixnum_plain.f (k : Nat) (a0 : ByteArray) : Option (Bool) := fixnum_plain.l0 k a0 (a0.size : Int) 0
set_option maxHeartbeats 8000000 in
set_option maxRecDepth 100000 in
theorem fixnum_plain.calls (k : Nat) (a0 : ByteArray) (r : Bool) (w : World) (h : fixnum_plain.f k a0 = some r) :
  Calls Tryz.prog 68 #[.string a0] w fun e w' => e = .returned (.bool r) ∧ Drawn0 w w' := by
 have H : (fixnum_plain.l0 k a0 (a0.size : Int) 0) = some r := h
 clear h
 have H' := Aside0.mk H
 clear H
 go_enter Tryz.func68, Tryz.ntmps68
 go_wp2
 go_loopg [6] k (fun kq v6 w' => ∃ (x6_1 : Int), v6 = .int .i64 x6_1 ∧ Aside0 (fixnum_plain.l0 kq a0 (a0.size : Int) x6_1 = some r) ∧ Aside0 (kq ≤ k) ∧ Drawn0 w w')
 case atStart => exact ⟨(0), (by first | rfl | (simp; done) | (simp [*]; done)), H', ⟨Nat.le_refl _⟩, by repeat (first | exact Drawn0.refl _ | apply Drawn0.step)⟩
 case round =>
  clear H'
  obtain ⟨x6_1, rfl, HA, HK1, ⟨m1, rfl⟩⟩ := hrel
  cases gk with
  | zero => exact absurd HA.out (by simp [fixnum_plain.l0])
  | succ k1 =>
   have H := HA.out
   clear HA
   simp only [fixnum_plain.l0] at H
   by_cases c2 : x6_1 < (a0.size : Int)
   ·rw [if_pos c2] at H
    have c2b0 : decide (x6_1 < (a0.size : Int)) = true := decide_eq_true c2
    clear c2
    by_cases c3 : 0 ≤ x6_1
    ·rw [if_pos c3] at H
     have c3b0 : decide (0 ≤ x6_1) = true := decide_eq_true c3
     clear c3
     by_cases c4 : x6_1 < (a0.size : Int)
     ·rw [if_pos c4] at H
      have c4b0 : decide (x6_1 < (a0.size : Int)) = true := decide_eq_true c4
      clear c4
      by_cases c6 : (bt a0 x6_1) < 48
      ·rw [if_pos c6] at H
       have c6b0 : decide ((bt a0 x6_1) < 48) = true := decide_eq_true c6
       clear c6
       obtain rfl := Option.some.inj H
       have p5 : 0 ≤ (x6_1 : Int) := of_decide_eq_true (by first | (with_reducible assumption) | assumption)
       have q5 : x6_1 < (a0.size : Int) := of_decide_eq_true (by first | (with_reducible assumption) | assumption)
       have hx5 := bt_at a0 x6_1
       replace p5 := eq_true p5
       replace q5 := eq_true q5
       try (have q5z := q5; simp only [ByteArray.size_extract, Nat.min_self] at q5z)
       go_wp2
       go_ret
       exact ⟨by first | rfl | (simp; done) | (simp [*]; done) | (simp; generalize ByteArray.toList _ = l_; cases l_ <;> rfl), by repeat (first | exact Drawn0.refl _ | apply Drawn0.step)⟩
      ·rw [if_neg c6] at H
       have c6b0 : decide ((bt a0 x6_1) < 48) = false := decide_eq_false c6
       clear c6
       by_cases c8 : (bt a0 x6_1) > 57
       ·rw [if_pos c8] at H
        have c8b0 : decide (57 < (bt a0 x6_1)) = true := decide_eq_true c8
        clear c8
        obtain rfl := Option.some.inj H
        have p5 : 0 ≤ (x6_1 : Int) := of_decide_eq_true (by first | (with_reducible assumption) | assumption)
        have q5 : x6_1 < (a0.size : Int) := of_decide_eq_true (by first | (with_reducible assumption) | assumption)
        have hx5 := bt_at a0 x6_1
        replace p5 := eq_true p5
        replace q5 := eq_true q5
        try (have q5z := q5; simp only [ByteArray.size_extract, Nat.min_self] at q5z)
        have p7 : 0 ≤ (x6_1 : Int) := of_decide_eq_true (by first | (with_reducible assumption) | assumption)
        have q7 : x6_1 < (a0.size : Int) := of_decide_eq_true (by first | (with_reducible assumption) | assumption)
        have hx7 := bt_at a0 x6_1
        replace p7 := eq_true p7
        replace q7 := eq_true q7
        try (have q7z := q7; simp only [ByteArray.size_extract, Nat.min_self] at q7z)
        go_wp2
        go_ret
        exact ⟨by first | rfl | (simp; done) | (simp [*]; done) | (simp; generalize ByteArray.toList _ = l_; cases l_ <;> rfl), by repeat (first | exact Drawn0.refl _ | apply Drawn0.step)⟩
       ·rw [if_neg c8] at H
        have c8b0 : decide (57 < (bt a0 x6_1)) = false := decide_eq_false c8
        clear c8
        have H' := Aside0.mk H
        clear H
        have p5 : 0 ≤ (x6_1 : Int) := of_decide_eq_true (by first | (with_reducible assumption) | assumption)
        have q5 : x6_1 < (a0.size : Int) := of_decide_eq_true (by first | (with_reducible assumption) | assumption)
        have hx5 := bt_at a0 x6_1
        replace p5 := eq_true p5
        replace q5 := eq_true q5
        try (have q5z := q5; simp only [ByteArray.size_extract, Nat.min_self] at q5z)
        have p7 : 0 ≤ (x6_1 : Int) := of_decide_eq_true (by first | (with_reducible assumption) | assumption)
        have q7 : x6_1 < (a0.size : Int) := of_decide_eq_true (by first | (with_reducible assumption) | assumption)
        have hx7 := bt_at a0 x6_1
        replace p7 := eq_true p7
        replace q7 := eq_true q7
        try (have q7z := q7; simp only [ByteArray.size_extract, Nat.min_self] at q7z)
        go_wp2
        go_roundg k1
        case measure => have := HK1.out; omega
        case rel => exact ⟨(wrap64 (x6_1 + 1)), (by first | rfl | (simp; done) | (simp [*]; done)), H', ⟨by have := HK1.out; omega⟩, by repeat (first | exact Drawn0.refl _ | apply Drawn0.step)⟩
     ·rw [if_neg c4] at H
      exact absurd H (by simp)
    ·rw [if_neg c3] at H
     exact absurd H (by simp)
   ·rw [if_neg c2] at H
    have c2b0 : decide (x6_1 < (a0.size : Int)) = false := decide_eq_false c2
    clear c2
    obtain rfl := Option.some.inj H
    go_wp2
    go_ret
    exact ⟨by first | rfl | (simp; done) | (simp [*]; done) | (simp; generalize ByteArray.toList _ = l_; cases l_ <;> rfl), by repeat (first | exact Drawn0.refl _ | apply Drawn0.step)⟩
def stringslite_HasPrefix.f (a0 : ByteArray) (a1 : ByteArray) : Option (Bool) := if (a0.size : Int) ≥ (a1.size : Int) then (if 0 ≤ (a1.size : Int) then (if (a1.size : Int) ≤ (a0.size : Int) then (some ((a0.extract 0 ((a1.size : Int) : Int).toNat).toList == a1.toList)) else (none)) else (none)) else (some false)
set_option maxHeartbeats 8000000 in
set_option maxRecDepth 100000 in
theorem stringslite_HasPrefix.calls (a0 : ByteArray) (a1 : ByteArray) (r : Bool) (w : World) (h : stringslite_HasPrefix.f a0 a1 = some r) :
  Calls Tryz.prog 110 #[.string a0, .string a1] w fun e w' => e = .returned (.bool r) ∧ Drawn0 w w' := by
 have H : (if (a0.size : Int) ≥ (a1.size : Int) then (if 0 ≤ (a1.size : Int) then (if (a1.size : Int) ≤ (a0.size : Int) then (some ((a0.extract 0 ((a1.size : Int) : Int).toNat).toList == a1.toList)) else (none)) else (none)) else (some false)) = some r := h
 clear h
 by_cases c3 : (a0.size : Int) ≥ (a1.size : Int)
 ·rw [if_pos c3] at H
  have c3b0 : decide ((a1.size : Int) ≤ (a0.size : Int)) = true := decide_eq_true c3
  have c3b1 : decide (a1.size ≤ a0.size) = true := decide_eq_true (Int.ofNat_le.mp c3)
  clear c3
  by_cases c4 : 0 ≤ (a1.size : Int)
  ·rw [if_pos c4] at H
   have c4b0 := eq_true c4
   have c4b1 : decide (0 ≤ (a1.size : Int)) = true := decide_eq_true c4
   clear c4
   by_cases c5 : (a1.size : Int) ≤ (a0.size : Int)
   ·rw [if_pos c5] at H
    have c5b0 := eq_true c5
    have c5b1 : decide ((a1.size : Int) ≤ (a0.size : Int)) = true := decide_eq_true c5
    clear c5
    obtain rfl := Option.some.inj H
    go_enter Tryz.func110, Tryz.ntmps110
    go_wp2
    go_ret
    exact ⟨by first | rfl | (simp; done) | (simp [*]; done) | (simp; generalize ByteArray.toList _ = l_; cases l_ <;> rfl), by repeat (first | exact Drawn0.refl _ | apply Drawn0.step)⟩
   ·rw [if_neg c5] at H
    exact absurd H (by simp)
  ·rw [if_neg c4] at H
   exact absurd H (by simp)
 ·rw [if_neg c3] at H
  have c3b0 : decide ((a1.size : Int) ≤ (a0.size : Int)) = false := decide_eq_false c3
  have c3b1 : decide (a1.size ≤ a0.size) = false := decide_eq_false (fun h => c3 (Int.ofNat_le.mpr h))
  clear c3
  obtain rfl := Option.some.inj H
  go_enter Tryz.func110, Tryz.ntmps110
  go_wp2
  go_ret
  exact ⟨by first | rfl | (simp; done) | (simp [*]; done) | (simp; generalize ByteArray.toList _ = l_; cases l_ <;> rfl), by repeat (first | exact Drawn0.refl _ | apply Drawn0.step)⟩
def stringslite_CutPrefix.f (a0 : ByteArray) (a1 : ByteArray) : Option (ByteArray × Bool) := (stringslite_HasPrefix.f a0 a1).bind fun t101 => (if t101 = true then (if 0 ≤ (a1.size : Int) then (if (a1.size : Int) ≤ (a0.size : Int) then (some (a0.extract ((a1.size : Int) : Int).toNat a0.size, true)) else (none)) else (none)) else (some (a0, false)))
set_option maxHeartbeats 8000000 in
set_option maxRecDepth 100000 in
theorem stringslite_CutPrefix.calls (a0 : ByteArray) (a1 : ByteArray) (r1 : ByteArray) (r2 : Bool) (w : World) (h : stringslite_CutPrefix.f a0 a1 = some (r1, r2)) :
  Calls Tryz.prog 92 #[.string a0, .string a1] w fun e w' => e = .returned (.tuple #[.string r1, .bool r2]) ∧ Drawn0 w w' := by
 have H : ((stringslite_HasPrefix.f a0 a1).bind fun t101 => (if t101 = true then (if 0 ≤ (a1.size : Int) then (if (a1.size : Int) ≤ (a0.size : Int) then (some (a0.extract ((a1.size : Int) : Int).toNat a0.size, true)) else (none)) else (none)) else (some (a0, false)))) = some (r1, r2) := h
 clear h
 replace H := Option.bind_eq_some_iff.mp H
 obtain ⟨t101, A30, H⟩ := H
 replace H : (if t101 = true then (if 0 ≤ (a1.size : Int) then (if (a1.size : Int) ≤ (a0.size : Int) then (some (a0.extract ((a1.size : Int) : Int).toNat a0.size, true)) else (none)) else (none)) else (some (a0, false))) = some (r1, r2) := H
 have A3 := Aside0.mk A30
 clear A30
 by_cases c4 : t101 = true
 ·subst c4
  have H1 : (if 0 ≤ (a1.size : Int) then (if (a1.size : Int) ≤ (a0.size : Int) then (some (a0.extract ((a1.size : Int) : Int).toNat a0.size, true)) else (none)) else (none)) = some (r1, r2) := by rw [if_pos rfl] at H; exact H
  clear H
  have H := H1
  clear H1
  by_cases c5 : 0 ≤ (a1.size : Int)
  ·rw [if_pos c5] at H
   have c5b0 := eq_true c5
   have c5b1 : decide (0 ≤ (a1.size : Int)) = true := decide_eq_true c5
   clear c5
   by_cases c6 : (a1.size : Int) ≤ (a0.size : Int)
   ·rw [if_pos c6] at H
    have c6b0 := eq_true c6
    have c6b1 : decide ((a1.size : Int) ≤ (a0.size : Int)) = true := decide_eq_true c6
    clear c6
    simp only [Option.some.injEq, Prod.mk.injEq] at H
    obtain ⟨rfl, rfl⟩ := H
    go_enter Tryz.func92, Tryz.ntmps92
    go_wp2_with (first | ((with_reducible refine gate_callee (f := 110) rfl ?_); refine goesL_ (some 8) rfl rfl Tryz.func110 (by kernel_rfl) rfl #[.string a0, .string a1] rfl (by (try simp only [List.map_toArray, List.map_cons, List.map_nil]); first | done | rfl | (simp only [List.length_drop, List.length_take]; rfl)) ?_; (with_reducible refine (stringslite_HasPrefix.calls a0 a1 true _ A3.out).mono ?_); rintro e w' ⟨rfl, ⟨nd, rfl⟩⟩; refine ⟨_, rfl, ?_⟩))
    go_ret2
    exact ⟨by first | rfl | (simp; done) | (simp [*]; done) | (simp; generalize ByteArray.toList _ = l_; cases l_ <;> rfl), by repeat (first | exact Drawn0.refl _ | apply Drawn0.step)⟩
   ·rw [if_neg c6] at H
    exact absurd H (by simp)
  ·rw [if_neg c5] at H
   exact absurd H (by simp)
 ·replace c4 := Bool.eq_false_iff.mpr c4
  subst c4
  have H1 : (some (a0, false)) = some (r1, r2) := by rw [if_neg (show ¬ (false = true) by decide)] at H; exact H
  clear H
  have H := H1
  clear H1
  simp only [Option.some.injEq, Prod.mk.injEq] at H
  obtain ⟨rfl, rfl⟩ := H
  go_enter Tryz.func92, Tryz.ntmps92
  go_wp2_with (first | ((with_reducible refine gate_callee (f := 110) rfl ?_); refine goesL_ (some 8) rfl rfl Tryz.func110 (by kernel_rfl) rfl #[.string a0, .string a1] rfl (by (try simp only [List.map_toArray, List.map_cons, List.map_nil]); first | done | rfl | (simp only [List.length_drop, List.length_take]; rfl)) ?_; (with_reducible refine (stringslite_HasPrefix.calls a0 a1 false _ A3.out).mono ?_); rintro e w' ⟨rfl, ⟨nd, rfl⟩⟩; refine ⟨_, rfl, ?_⟩))
  go_ret2
  exact ⟨by first | rfl | (simp; done) | (simp [*]; done) | (simp; generalize ByteArray.toList _ = l_; cases l_ <;> rfl), by repeat (first | exact Drawn0.refl _ | apply Drawn0.step)⟩
def strings_CutPrefix.f (a0 : ByteArray) (a1 : ByteArray) : Option (ByteArray × Bool) := (stringslite_CutPrefix.f a0 a1).bind fun bt102 => (some (bt102.1, bt102.2))
set_option maxHeartbeats 8000000 in
set_option maxRecDepth 100000 in
theorem strings_CutPrefix.calls (a0 : ByteArray) (a1 : ByteArray) (r1 : ByteArray) (r2 : Bool) (w : World) (h : strings_CutPrefix.f a0 a1 = some (r1, r2)) :
  Calls Tryz.prog 66 #[.string a0, .string a1] w fun e w' => e = .returned (.tuple #[.string r1, .bool r2]) ∧ Drawn0 w w' := by
 have H : ((stringslite_CutPrefix.f a0 a1).bind fun bt102 => (some (bt102.1, bt102.2))) = some (r1, r2) := h
 clear h
 replace H := Option.bind_eq_some_iff.mp H
 obtain ⟨⟨t102, t103⟩, A30, H⟩ := H
 replace H : (some (t102, t103)) = some (r1, r2) := H
 have A3 := Aside0.mk A30
 clear A30
 simp only [Option.some.injEq, Prod.mk.injEq] at H
 obtain ⟨rfl, rfl⟩ := H
 go_enter Tryz.func66, Tryz.ntmps66
 go_wp2_with (first | ((with_reducible refine gate_callee (f := 92) rfl ?_); refine goesL_ (some 8) rfl rfl Tryz.func92 (by kernel_rfl) rfl #[.string a0, .string a1] rfl (by (try simp only [List.map_toArray, List.map_cons, List.map_nil]); first | done | rfl | (simp only [List.length_drop, List.length_take]; rfl)) ?_; (with_reducible refine (stringslite_CutPrefix.calls a0 a1 t102 t103 _ A3.out).mono ?_); rintro e w' ⟨rfl, ⟨nd, rfl⟩⟩; refine ⟨_, rfl, ?_⟩))
 go_ret2
 exact ⟨by first | rfl | (simp; done) | (simp [*]; done) | (simp; generalize ByteArray.toList _ = l_; cases l_ <;> rfl), by repeat (first | exact Drawn0.refl _ | apply Drawn0.step)⟩
def strings_trimRightByte.l0 : Nat → ByteArray → Int → Option (ByteArray)
 | 0, _, _ => none
 | k + 1, x0, x1 => if (x0.size : Int) > 0 then (if 0 ≤ (wrap64 ((x0.size : Int) - 1)) then (if (wrap64 ((x0.size : Int) - 1)) < (x0.size : Int) then (if (bt x0 (wrap64 ((x0.size : Int) - 1))) = x1 then (if (wrap64 ((x0.size : Int) - 1)) ≤ (x0.size : Int) then (strings_trimRightByte.l0 k (x0.extract 0 ((wrap64 ((x0.size : Int) - 1)) : Int).toNat) x1) else (none)) else (some x0)) else (none)) else (none)) else (some x0)
def strings_trimRightByte.f (k : Nat) (a0 : ByteArray) (a1 : Int) : Option (ByteArray) := strings_trimRightByte.l0 k a0 a1
set_option maxHeartbeats 8000000 in
set_option maxRecDepth 100000 in
theorem strings_trimRightByte.calls (k : Nat) (a0 : ByteArray) (a1 : Int) (r : ByteArray) (w : World) (h : strings_trimRightByte.f k a0 a1 = some r) :
  Calls Tryz.prog 103 #[.string a0, .int .u8 a1] w fun e w' => e = .returned (.string r) ∧ Drawn0 w w' := by
 have H : (strings_trimRightByte.l0 k a0 a1) = some r := h
 clear h
 have H' := Aside0.mk H
 clear H
 go_enter Tryz.func103, Tryz.ntmps103
 go_wp2
 go_loopg [0] k (fun kq v0 w' => ∃ (x0_1 : ByteArray), v0 = .string x0_1 ∧ Aside0 (strings_trimRightByte.l0 kq x0_1 a1 = some r) ∧ Aside0 (kq ≤ k) ∧ Drawn0 w w')
 case atStart => exact ⟨(a0), (by first | rfl | (simp; done) | (simp [*]; done)), H', ⟨Nat.le_refl _⟩, by repeat (first | exact Drawn0.refl _ | apply Drawn0.step)⟩
 case round =>
  clear H'
  try clear c1
  try clear p2
  obtain ⟨x0_1, rfl, HA, HK1, ⟨m1, rfl⟩⟩ := hrel
  cases gk with
  | zero => exact absurd HA.out (by simp [strings_trimRightByte.l0])
  | succ k1 =>
   have H := HA.out
   clear HA
   simp only [strings_trimRightByte.l0] at H
   by_cases c3 : (x0_1.size : Int) > 0
   ·rw [if_pos c3] at H
    have c3b0 : decide (0 < (x0_1.size : Int)) = true := decide_eq_true c3
    have c3b1 : decide (0 < x0_1.size) = true := decide_eq_true (by omega)
    clear c3
    obtain ⟨ji4, hji4⟩ : ∃ j_ : Int, (wrap64 ((x0_1.size : Int) - 1)) = j_ := ⟨_, rfl⟩
    replace H : (if 0 ≤ (ji4) then (if (ji4) < (x0_1.size : Int) then (if (bt x0_1 (ji4)) = a1 then (if (ji4) ≤ (x0_1.size : Int) then (strings_trimRightByte.l0 k1 (x0_1.extract 0 ((ji4) : Int).toNat) a1) else (none)) else (some x0_1)) else (none)) else (none)) = some r := by first | (rw [hji4] at H; exact H) | (simp only [hji4] at H ⊢; exact H)
    have hji4w : (IntKind.i64.wrap ((x0_1.size : Int) - 1)) = ji4 := (i64_w _).trans hji4
    by_cases c5 : 0 ≤ (ji4)
    ·rw [if_pos c5] at H
     have c5b0 : decide (0 ≤ (ji4)) = true := decide_eq_true c5
     clear c5
     by_cases c6 : (ji4) < (x0_1.size : Int)
     ·rw [if_pos c6] at H
      have c6b0 : decide ((ji4) < (x0_1.size : Int)) = true := decide_eq_true c6
      clear c6
      by_cases c8 : (bt x0_1 (ji4)) = a1
      ·rw [if_pos c8] at H
       have c8b0 : ((bt x0_1 (ji4)) == a1) = true := beq_iff_eq.mpr c8
       have c8b1 : ((bt x0_1 (ji4)) != a1) = false := bne_eq_false_iff_eq.mpr c8
       clear c8
       have c9b0 := eq_true (of_decide_eq_true (by first | (with_reducible assumption) | assumption) : 0 ≤ (ji4))
       by_cases c10 : (ji4) ≤ (x0_1.size : Int)
       ·rw [if_pos c10] at H
        have c10b0 := eq_true c10
        have c10b1 : decide ((ji4) ≤ (x0_1.size : Int)) = true := decide_eq_true c10
        clear c10
        have H' := Aside0.mk H
        clear H
        have p7 : 0 ≤ ((ji4) : Int) := of_decide_eq_true (by first | (with_reducible assumption) | assumption)
        have q7 : (ji4) < (x0_1.size : Int) := of_decide_eq_true (by first | (with_reducible assumption) | assumption)
        have hx7 := bt_at x0_1 (ji4)
        replace p7 := eq_true p7
        replace q7 := eq_true q7
        try (have q7z := q7; simp only [ByteArray.size_extract, Nat.min_self] at q7z)
        go_wp2
        go_roundg k1
        case measure => have := HK1.out; omega
        case rel => exact ⟨(x0_1.extract 0 ((ji4) : Int).toNat), (by first | rfl | (simp; done) | (simp only [← hji4] <;> (first | rfl | simp)) | (simp [*]; done)), H', ⟨by have := HK1.out; omega⟩, by repeat (first | exact Drawn0.refl _ | apply Drawn0.step)⟩
       ·rw [if_neg c10] at H
        exact absurd H (by simp)
      ·rw [if_neg c8] at H
       have c8b0 : ((bt x0_1 (ji4)) == a1) = false := beq_eq_false_iff_ne.mpr c8
       have c8b1 : ((bt x0_1 (ji4)) != a1) = true := bne_iff_ne.mpr c8
       obtain rfl := Option.some.inj H
       have p7 : 0 ≤ ((ji4) : Int) := of_decide_eq_true (by first | (with_reducible assumption) | assumption)
       have q7 : (ji4) < (x0_1.size : Int) := of_decide_eq_true (by first | (with_reducible assumption) | assumption)
       have hx7 := bt_at x0_1 (ji4)
       replace p7 := eq_true p7
       replace q7 := eq_true q7
       try (have q7z := q7; simp only [ByteArray.size_extract, Nat.min_self] at q7z)
       go_wp2
       go_ret
       exact ⟨by first | rfl | (simp; done) | (simp only [← hji4] <;> (first | rfl | simp)) | (simp [*]; done), by repeat (first | exact Drawn0.refl _ | apply Drawn0.step)⟩
     ·rw [if_neg c6] at H
      exact absurd H (by simp)
    ·rw [if_neg c5] at H
     exact absurd H (by simp)
   ·rw [if_neg c3] at H
    have c3b0 : decide (0 < (x0_1.size : Int)) = false := decide_eq_false c3
    have c3b1 : decide (0 < x0_1.size) = false := decide_eq_false (by omega)
    clear c3
    obtain rfl := Option.some.inj H
    go_wp2
    go_ret
    exact ⟨by first | rfl | (simp; done) | (simp [*]; done) | (simp; generalize ByteArray.toList _ = l_; cases l_ <;> rfl), by repeat (first | exact Drawn0.refl _ | apply Drawn0.step)⟩
mutual
def fixnum_signed.j0 : Nat → Int → Bool → Bool → Option (Int × Bool)
 | 0, _, _, _ => none
 | k + 1, x0, x1, x6 => if x6 = true then (fixnum_signed.j1 k x0 x1 x6) else (if x1 = true then (fixnum_signed.j1 k x0 x1 (decide (x0 > 9223372036854775808))) else (fixnum_signed.j1 k x0 x1 false))
def fixnum_signed.j1 : Nat → Int → Bool → Bool → Option (Int × Bool)
 | 0, _, _, _ => none
 | k + 1, x0, x1, x6 => if x6 = true then (some (0, false)) else (if x1 = true then (some (wrap64 (IntKind.u64.wrap (-x0)), true)) else (some (wrap64 (x0), true)))
end
def fixnum_signed.f (k : Nat) (a0 : Int) (a1 : Bool) : Option (Int × Bool) := if a1 = true then (fixnum_signed.j0 k a0 a1 false) else (fixnum_signed.j0 k a0 a1 (decide (a0 > 9223372036854775807)))
set_option maxHeartbeats 8000000 in
set_option maxRecDepth 100000 in
theorem fixnum_signed.calls (k : Nat) (a0 : Int) (a1 : Bool) (r1 : Int) (r2 : Bool) (w : World) (h : fixnum_signed.f k a0 a1 = some (r1, r2)) :
  Calls Tryz.prog 71 #[.int .u64 a0, .bool a1] w fun e w' => e = .returned (.tuple #[.int .i64 r1, .bool r2]) ∧ Drawn0 w w' := by
 have H : (if a1 = true then (fixnum_signed.j0 k a0 a1 false) else (fixnum_signed.j0 k a0 a1 (decide (a0 > 9223372036854775807)))) = some (r1, r2) := h
 clear h
 have HC3 := Aside0.mk H
 clear H
 go_enter Tryz.func71, Tryz.ntmps71
 go_upto_region 1 with (fail)
 go_cut [6] (fun v6 wc => ∃ (kq : Nat) (x6_2 : Bool), v6 = .bool x6_2 ∧ Aside0 (fixnum_signed.j0 kq a0 a1 x6_2 = some (r1, r2)) ∧ Aside0 (kq ≤ k) ∧ Drawn0 w wc)
 case first =>
  have H := HC3.out
  clear HC3
  by_cases c4 : a1 = true
  ·subst c4
   have H1 : (fixnum_signed.j0 k a0 true false) = some (r1, r2) := by rw [if_pos rfl] at H; exact H
   clear H
   have H := H1
   clear H1
   have H' := Aside0.mk H
   clear H
   go_wp2
   go_meet
   case rel => exact ⟨_, (false), (by first | rfl | (simp; done) | (simp [*]; done)), H', ⟨by first | omega | exact Nat.le_refl _⟩, by repeat (first | exact Drawn0.refl _ | apply Drawn0.step)⟩
  ·replace c4 := Bool.eq_false_iff.mpr c4
   subst c4
   have H1 : (fixnum_signed.j0 k a0 false (decide (a0 > 9223372036854775807))) = some (r1, r2) := by rw [if_neg (show ¬ (false = true) by decide)] at H; exact H
   clear H
   have H := H1
   clear H1
   have H' := Aside0.mk H
   clear H
   go_wp2
   go_meet
   case rel => exact ⟨_, (decide (a0 > 9223372036854775807)), (by first | rfl | (simp; done) | (simp [*]; done)), H', ⟨by first | omega | exact Nat.le_refl _⟩, by repeat (first | exact Drawn0.refl _ | apply Drawn0.step)⟩
 case rest =>
  clear HC3
  try clear p2
  try clear c4
  obtain ⟨kq, x6_2, rfl, HA, HJ2, ⟨mc2, rfl⟩⟩ := hcut
  cases kq with
  | zero => exact absurd HA.out (by simp [fixnum_signed.j0])
  | succ kj2 =>
   have H := HA.out
   clear HA
   simp only [fixnum_signed.j0] at H
   have HC5 := Aside0.mk H
   clear H
   go_upto_if 6 with (fail)
   go_cut [6] (fun v6 wc => ∃ (kq : Nat) (x6_4 : Bool), v6 = .bool x6_4 ∧ Aside0 (fixnum_signed.j1 kq a0 a1 x6_4 = some (r1, r2)) ∧ Aside0 (kq ≤ kj2) ∧ Drawn0 w wc)
   case first =>
    have H := HC5.out
    clear HC5
    by_cases c6 : x6_2 = true
    ·subst c6
     have H1 : (fixnum_signed.j1 kj2 a0 a1 true) = some (r1, r2) := by rw [if_pos rfl] at H; exact H
     clear H
     have H := H1
     clear H1
     have H' := Aside0.mk H
     clear H
     go_wp2
     go_meet
     case rel => exact ⟨_, (true), (by first | rfl | (simp; done) | (simp [*]; done)), H', ⟨by have := HJ2.out; first | omega | exact Nat.le_refl _⟩, by repeat (first | exact Drawn0.refl _ | apply Drawn0.step)⟩
    ·replace c6 := Bool.eq_false_iff.mpr c6
     subst c6
     have H1 : (if a1 = true then (fixnum_signed.j1 kj2 a0 a1 (decide (a0 > 9223372036854775808))) else (fixnum_signed.j1 kj2 a0 a1 false)) = some (r1, r2) := by rw [if_neg (show ¬ (false = true) by decide)] at H; exact H
     clear H
     have H := H1
     clear H1
     by_cases c7 : a1 = true
     ·subst c7
      have H1 : (fixnum_signed.j1 kj2 a0 true (decide (a0 > 9223372036854775808))) = some (r1, r2) := by rw [if_pos rfl] at H; exact H
      clear H
      have H := H1
      clear H1
      have H' := Aside0.mk H
      clear H
      go_wp2
      go_meet
      case rel => exact ⟨_, (decide (a0 > 9223372036854775808)), (by first | rfl | (simp; done) | (simp [*]; done)), H', ⟨by have := HJ2.out; first | omega | exact Nat.le_refl _⟩, by repeat (first | exact Drawn0.refl _ | apply Drawn0.step)⟩
     ·replace c7 := Bool.eq_false_iff.mpr c7
      subst c7
      have H1 : (fixnum_signed.j1 kj2 a0 false false) = some (r1, r2) := by rw [if_neg (show ¬ (false = true) by decide)] at H; exact H
      clear H
      have H := H1
      clear H1
      have H' := Aside0.mk H
      clear H
      go_wp2
      go_meet
      case rel => exact ⟨_, (false), (by first | rfl | (simp; done) | (simp [*]; done)), H', ⟨by have := HJ2.out; first | omega | exact Nat.le_refl _⟩, by repeat (first | exact Drawn0.refl _ | apply Drawn0.step)⟩
   case rest =>
    clear HC5
    try clear c2
    try clear p2
    try clear c4
    try clear c6
    try clear c7
    try clear p2
    obtain ⟨kq, x6_4, rfl, HA, HJ4, ⟨mc4, rfl⟩⟩ := hcut
    cases kq with
    | zero => exact absurd HA.out (by simp [fixnum_signed.j1])
    | succ kj4 =>
     have H := HA.out
     clear HA
     simp only [fixnum_signed.j1] at H
     by_cases c8 : x6_4 = true
     ·subst c8
      have H1 : (some (0, false)) = some (r1, r2) := by rw [if_pos rfl] at H; exact H
      clear H
      have H := H1
      clear H1
      simp only [Option.some.injEq, Prod.mk.injEq] at H
      obtain ⟨rfl, rfl⟩ := H
      go_wp2
      go_ret2
      exact ⟨by first | rfl | (simp; done) | (simp [*]; done) | (simp; generalize ByteArray.toList _ = l_; cases l_ <;> rfl), by repeat (first | exact Drawn0.refl _ | apply Drawn0.step)⟩
     ·replace c8 := Bool.eq_false_iff.mpr c8
      subst c8
      have H1 : (if a1 = true then (some (wrap64 (IntKind.u64.wrap (-a0)), true)) else (some (wrap64 (a0), true))) = some (r1, r2) := by rw [if_neg (show ¬ (false = true) by decide)] at H; exact H
      clear H
      have H := H1
      clear H1
      by_cases c9 : a1 = true
      ·subst c9
       have H1 : (some (wrap64 (IntKind.u64.wrap (-a0)), true)) = some (r1, r2) := by rw [if_pos rfl] at H; exact H
       clear H
       have H := H1
       clear H1
       simp only [Option.some.injEq, Prod.mk.injEq] at H
       obtain ⟨rfl, rfl⟩ := H
       go_wp2
       go_ret2
       exact ⟨by first | rfl | (simp; done) | (simp [*]; done) | (simp; generalize ByteArray.toList _ = l_; cases l_ <;> rfl), by repeat (first | exact Drawn0.refl _ | apply Drawn0.step)⟩
      ·replace c9 := Bool.eq_false_iff.mpr c9
       subst c9
       have H1 : (some (wrap64 (a0), true)) = some (r1, r2) := by rw [if_neg (show ¬ (false = true) by decide)] at H; exact H
       clear H
       have H := H1
       clear H1
       simp only [Option.some.injEq, Prod.mk.injEq] at H
       obtain ⟨rfl, rfl⟩ := H
       go_wp2
       go_ret2
       exact ⟨by first | rfl | (simp; done) | (simp [*]; done) | (simp; generalize ByteArray.toList _ = l_; cases l_ <;> rfl), by repeat (first | exact Drawn0.refl _ | apply Drawn0.step)⟩
def fixnum_abs.f (a0 : Int) : Option (Int × Bool) := if a0 < 0 then (some (IntKind.u64.wrap (-(IntKind.u64.wrap (a0))), true)) else (some (IntKind.u64.wrap (a0), false))
set_option maxHeartbeats 8000000 in
set_option maxRecDepth 100000 in
theorem fixnum_abs.calls (a0 : Int) (r1 : Int) (r2 : Bool) (w : World) (h : fixnum_abs.f a0 = some (r1, r2)) :
  Calls Tryz.prog 76 #[.int .i64 a0] w fun e w' => e = .returned (.tuple #[.int .u64 r1, .bool r2]) ∧ Drawn0 w w' := by
 have H : (if a0 < 0 then (some (IntKind.u64.wrap (-(IntKind.u64.wrap (a0))), true)) else (some (IntKind.u64.wrap (a0), false))) = some (r1, r2) := h
 clear h
 by_cases c2 : a0 < 0
 ·rw [if_pos c2] at H
  have c2b0 : decide (a0 < 0) = true := decide_eq_true c2
  clear c2
  simp only [Option.some.injEq, Prod.mk.injEq] at H
  obtain ⟨rfl, rfl⟩ := H
  go_enter Tryz.func76, Tryz.ntmps76
  go_wp2
  go_ret2
  exact ⟨by first | rfl | (simp; done) | (simp [*]; done) | (simp; generalize ByteArray.toList _ = l_; cases l_ <;> rfl), by repeat (first | exact Drawn0.refl _ | apply Drawn0.step)⟩
 ·rw [if_neg c2] at H
  have c2b0 : decide (a0 < 0) = false := decide_eq_false c2
  clear c2
  simp only [Option.some.injEq, Prod.mk.injEq] at H
  obtain ⟨rfl, rfl⟩ := H
  go_enter Tryz.func76, Tryz.ntmps76
  go_wp2
  go_ret2
  exact ⟨by first | rfl | (simp; done) | (simp [*]; done) | (simp; generalize ByteArray.toList _ = l_; cases l_ <;> rfl), by repeat (first | exact Drawn0.refl _ | apply Drawn0.step)⟩
end Go.Proofs.YtfnbflhoaemmeaaGreatDoor.EFxA
end
section
namespace Go.Proofs.YtfnbflhoaemmeaaGreatDoor.Ext
open Go.RowKit Go.Proofs.YtfnbflhoaemmeaaGreatDoorW.PrintWords Go.Proofs.YtfnbflhoaemmeaaGreatDoorW.PrintLast Go.Proofs.YtfnbflhoaemmeaaGreatDoorW.PrintMore
attribute [local go_sem] max2_int min2_int max_two min_two max_three min_three max_four min_four
set_option linter.unusedVariables false
set_option linter.unusedSimpArgs false
theorem wrap_u64 (n : Int) : IntKind.u64.wrap n = n % 18446744073709551616 := by simp [IntKind.wrap, IntKind.bits, IntKind.signed]
end Go.Proofs.YtfnbflhoaemmeaaGreatDoor.Ext
end
section
namespace Go.Proofs.YtfnbflhoaemmeaaGreatDoor.Ext
open Go.Shelf Go.RowKit Go.Sort Go.Lib Go.Proofs.YtfnbflhoaemmeaaGreatDoorW.PrintWords Go.Proofs.YtfnbflhoaemmeaaGreatDoorW.PrintLast Go.Proofs.YtfnbflhoaemmeaaGreatDoor.EFxA
structure Lq (w : World) : Prop where
  m : ∃ v, w.cell? ⟨2, 0, none⟩ = some (.int .i64 v)
  tab : Lib.TabIs Tryz.prog w "internal/strconv.uint64pow10" .u64 Lib.pow10Tab
  e0 : ∃ tp p, w.cell? ⟨5, 0, none⟩ = some (.iface tp p)
  e1 : ∃ tp p, w.cell? ⟨6, 0, none⟩ = some (.iface tp p)
  ut : Lib.Utf8Tabs (Tryz.lays196_ren.g 3) (Tryz.lays196_ren.g 4) w
theorem cell_lt {w : World} {b o : Nat} {v : Value} (h : w.cell? ⟨b, o, none⟩ = some v) : b < w.heap.size := by
  unfold World.cell? at h
  by_cases hb : b < w.heap.size
  · exact hb
  · rw [Array.getElem?_eq_none (by simpa using hb)] at h; cases h
theorem tab_lt {w : World} (h : Lib.TabIs Tryz.prog w "internal/strconv.uint64pow10" .u64 Lib.pow10Tab) : ∃ g, Tryz.prog.globalNamed "internal/strconv.uint64pow10" = some g ∧ g < w.heap.size := by
  unfold Lib.TabIs World.var? at h
  cases hg : Tryz.prog.globalNamed "internal/strconv.uint64pow10" with
  | none => rw [hg] at h; cases h
  | some g =>
    refine ⟨g, rfl, ?_⟩
    rw [hg] at h
    by_cases hb : g < w.heap.size
    · exact hb
    · simp only [Option.bind_some] at h
      rw [Array.getElem?_eq_none (by omega)] at h; cases h
theorem Lq.below {w w' : World} (h : Lq w) (hb : Below w.heap.size w w') : Lq w' := by
  obtain ⟨v, hm⟩ := h.m
  obtain ⟨t0, p0, h0⟩ := h.e0
  obtain ⟨t1, p1, h1⟩ := h.e1
  obtain ⟨g, hg, hl⟩ := tab_lt h.tab
  exact ⟨⟨v, (hb.cell (p := ⟨2, 0, none⟩) (cell_lt hm)).trans hm⟩, var?_below hb hg hl h.tab, ⟨t0, p0, (hb.cell (p := ⟨5, 0, none⟩) (cell_lt h0)).trans h0⟩, ⟨t1, p1, (hb.cell (p := ⟨6, 0, none⟩) (cell_lt h1)).trans h1⟩, Utf8Tabs_below h.ut hb⟩
theorem Lq.drawn {w w' : World} (h : Lq w) (hd : Drawn0 w w') : Lq w' := h.below hd.below
def strings_Cut.f (a0 a1 : ByteArray) : Option (ByteArray × ByteArray × Bool) :=
  if a0.size < 4294967281 then some (⟨(Lib.cut a0.data.toList a1.data.toList).1.toArray⟩, ⟨(Lib.cut a0.data.toList a1.data.toList).2.1.toArray⟩, (Lib.cut a0.data.toList a1.data.toList).2.2) else none
theorem strings_Cut.calls (a0 a1 r1 r2 : ByteArray) (r3 : Bool) (w : World) (hL : Aside0 (Lq w)) (h : strings_Cut.f a0 a1 = some (r1, r2, r3)) :
    Calls Tryz.prog 67 #[.string a0, .string a1] w fun e w' => e = .returned (.tuple #[.string r1, .string r2, .bool r3]) ∧ Drawn0 w w' := by
  obtain ⟨v, hm⟩ := hL.out.m
  unfold strings_Cut.f at h
  by_cases hs : a0.size < 4294967281
  · rw [if_pos hs] at h
    simp only [Option.some.injEq, Prod.mk.injEq] at h
    obtain ⟨rfl, rfl, rfl⟩ := h
    exact (Tryz.strings_Cut a0 a1 v w hs hm).mono fun e w' ⟨he, hw⟩ => ⟨he, ⟨hw⟩⟩
  · rw [if_neg hs] at h; cases h
theorem FormatUint_10 (u : Nat) (hu : u < 18446744073709551616) (w : World) (hL : Aside0 (Lq w)) :
    Calls Tryz.prog 77 #[.int .u64 u, .int .i64 10] w fun e w' => e = .returned (.string ⟨(Lib.decDigits u).toArray⟩) ∧ Below w.heap.size w w' := by
  go_enter Tryz.func77, Tryz.ntmps77
  go_wp2_with (go_at_call 102; refine (Tryz.internal_FormatUint_10 u hu _ hL.out.tab).mono ?_; rintro e w' ⟨rfl, k, os, rfl⟩)
  go_ret
  exact ⟨rfl, below_grow _ _ (Nat.le_refl _) _ _⟩
theorem parseUintM_le (M : Nat) (l : List UInt8) : ∀ (acc u : Nat), acc ≤ M → Lib.parseUintM M acc l = .ok u → u ≤ M := by
  induction l with
  | nil => intro acc u ha h; simp only [Lib.parseUintM] at h; injection h with h; omega
  | cons c r ih =>
    intro acc u ha h
    unfold Lib.parseUintM at h
    split at h
    · split at h
      · cases h
      · split at h
        · cases h
        · exact ih _ u (by omega) h
    · cases h
theorem parseUintB_le (B : Nat) (l : List UInt8) (u : Nat) (h : Lib.parseUintB B l = .ok u) : u ≤ 2 ^ B - 1 := by
  unfold Lib.parseUintB at h
  split at h
  · cases h
  · exact parseUintM_le _ l 0 u (Nat.zero_le _) h
def strconv_FormatUint.f (a0 a1 : Int) : Option ByteArray :=
  if a1 = 10 ∧ 0 ≤ a0 ∧ a0 < 18446744073709551616 then some ⟨(Lib.decDigits a0.toNat).toArray⟩ else none
theorem strconv_FormatUint.calls (a0 a1 : Int) (r : ByteArray) (w : World) (hL : Aside0 (Lq w)) (h : strconv_FormatUint.f a0 a1 = some r) :
    Calls Tryz.prog 77 #[.int .u64 a0, .int .i64 a1] w fun e w' => e = .returned (.string r) ∧ Below w.heap.size w w' := by
  unfold strconv_FormatUint.f at h
  by_cases hs : a1 = 10 ∧ 0 ≤ a0 ∧ a0 < 18446744073709551616
  · rw [if_pos hs] at h
    obtain ⟨rfl, h0, h1⟩ := hs
    obtain rfl := Option.some.inj h
    have c := FormatUint_10 a0.toNat (by omega) w hL
    rw [Int.toNat_of_nonneg h0] at c
    exact c
  · rw [if_neg hs] at h; cases h
def strings_TrimRight.f (a0 a1 : ByteArray) : Option ByteArray := if a1.toList = [48] then strings_trimRightByte.f (a0.size + 1) a0 48 else none
set_option maxHeartbeats 1600000 in
set_option maxRecDepth 100000 in
theorem strings_TrimRight.calls (a0 a1 : ByteArray) (r : ByteArray) (w : World) (h : strings_TrimRight.f a0 a1 = some r) :
    Calls Tryz.prog 78 #[.string a0, .string a1] w fun e w' => e = .returned (.string r) ∧ Drawn0 w w' := by
  unfold strings_TrimRight.f at h
  by_cases hs : a1.toList = [48]
  · rw [if_pos hs] at h
    obtain rfl : a1 = ⟨#[48]⟩ := ByteArray.ext (Array.toList_inj.mp (by rw [← ByteArray.toList_eq, hs]))
    by_cases he : a0.toList = []
    · have k0 : (a0.toList == ([] : List UInt8)) = true := by rw [he]; rfl
      obtain rfl : a0 = ⟨#[]⟩ := ByteArray.ext (Array.toList_inj.mp (by rw [← ByteArray.toList_eq, he]))
      have hr : r = ⟨#[]⟩ := by
        have : strings_trimRightByte.f ((⟨#[]⟩ : ByteArray).size + 1) ⟨#[]⟩ 48 = some ⟨#[]⟩ := rfl
        rw [this] at h
        exact (Option.some.inj h).symm
      subst hr
      go_enter Tryz.func78, Tryz.ntmps78
      go_wp2_with fail
      go_ret
      exact ⟨by first | rfl | (simp; done), by repeat (first | exact Drawn0.refl _ | apply Drawn0.step)⟩
    · have k0 : (a0.toList == ([] : List UInt8)) = false := beq_eq_false_iff_ne.mpr he
      have k1 : a0.toList.isEmpty = false := List.isEmpty_eq_false_iff.mpr he
      go_enter Tryz.func78, Tryz.ntmps78
      go_wp2_with (first
        | ((with_reducible refine gate_callee (f := 103) rfl ?_); refine goesL_ (some 25) rfl rfl Tryz.func103 (by kernel_rfl) rfl #[.string a0, .int .u8 48] rfl (by (try simp only [List.map_toArray, List.map_cons, List.map_nil]); first | done | rfl) ?_; (with_reducible refine (strings_trimRightByte.calls (a0.size + 1) a0 48 r _ h).mono ?_); rintro e w' ⟨rfl, ⟨nd, rfl⟩⟩; refine ⟨_, rfl, ?_⟩))
      go_ret
      exact ⟨by first | rfl | (simp; done), by repeat (first | exact Drawn0.refl _ | apply Drawn0.step)⟩
  · rw [if_neg hs] at h; cases h
def utf8_ValidString.f (a0 : ByteArray) : Option Bool := if a0.size ≤ 9223372036854775807 then some (Lib.validD a0.data.toList) else none
theorem utf8_ValidString.calls (a0 : ByteArray) (r : Bool) (w : World) (hL : Aside0 (Lq w)) (h : utf8_ValidString.f a0 = some r) :
    Calls Tryz.prog 49 #[.string a0] w fun e w' => e = .returned (.bool r) ∧ Below w.heap.size w w' := by
  unfold utf8_ValidString.f at h
  by_cases hs : a0.size ≤ 9223372036854775807
  · rw [if_pos hs] at h
    obtain rfl := Option.some.inj h
    exact Tryz.utf8_ValidString a0 w hs hL.out.ut
  · rw [if_neg hs] at h; cases h
end Go.Proofs.YtfnbflhoaemmeaaGreatDoor.Ext
end
section
namespace Go.Proofs.YtfnbflhoaemmeaaGreatDoor
open Go.RowKit Go.Proofs.YtfnbflhoaemmeaaGreatDoor.Ext
theorem star_error : "*" ++ "errors.errorString" = "*errors.errorString" := by decide
theorem row123 (u : TypeId) (h : Tryz.prog.typeName? 3 u = some "*errors.errorString") : u = 168 :=
  typeName_ptr_named (nm := "errors.errorString") (by rw [star_error]; kernel_rfl) (by kernel_rfl) (by decide) u (by rw [star_error]; exact h)
theorem first_data : Rows.laid_unicode_utf8_first = Lib.firstData := by kernel_rfl
theorem accept_data : Rows.laid_unicode_utf8_acceptRanges = Lib.acceptData := by kernel_rfl
theorem lq_of {W : World} {r3 r4 r5 : List (String × DataW Unit)} (hs : W.ShapedOpen Tryz.prog)
    (h3 : laidMet Tryz.prog (("internal/strconv.uint64pow10", Rows.laid_internal_strconv_uint64pow10) :: r3) W)
    (h4 : laidMet Tryz.prog (("strconv.ErrSyntax", Rows.laid_strconv_ErrSyntax) :: r4) W)
    (h5 : laidMet Tryz.prog (("strconv.ErrRange", Rows.laid_strconv_ErrRange) :: r5) W)
    (h6 : Lib.VarReads Tryz.prog W "unicode/utf8.first" Rows.laid_unicode_utf8_first) (h7 : Lib.VarReads Tryz.prog W "unicode/utf8.acceptRanges" Rows.laid_unicode_utf8_acceptRanges) : Lq W := by
  have htab : Lib.TabIs Tryz.prog W "internal/strconv.uint64pow10" .u64 Lib.pow10Tab :=
    Lib.tabIs_of_head (g := 7) (t := 163) (e := 83) (n := 20) (by kernel_rfl) (by kernel_rfl) Tryz.underlying163 Tryz.underlying83 (by kernel_rfl) (by kernel_rfl) h3
  obtain ⟨a4, s4, hv4, _⟩ := laid_sentinel (g := 5) (ti := 85) h4 (by kernel_rfl) (by kernel_rfl) Tryz.underlying85 row123 Tryz.underlying168 Tryz.underlying170 rfl rfl Tryz.underlying9 (by kernel_rfl) (by kernel_rfl)
  obtain ⟨a5, s5, hv5, _⟩ := laid_sentinel (g := 6) (ti := 85) h5 (by kernel_rfl) (by kernel_rfl) Tryz.underlying85 row123 Tryz.underlying168 Tryz.underlying170 rfl rfl Tryz.underlying9 (by kernel_rfl) (by kernel_rfl)
  exact ⟨Tryz.laysM145.s1_3 W hs, htab, ⟨_, _, (World.var?_cell (show Tryz.prog.globalNamed "strconv.ErrSyntax" = some 5 by kernel_rfl) hv4 0).trans rfl⟩,
    ⟨_, _, (World.var?_cell (show Tryz.prog.globalNamed "strconv.ErrRange" = some 6 by kernel_rfl) hv5 0).trans rfl⟩,
    utf8Tabs_of_readsT (U8Types.of196 Tryz.lays196) ⟨by kernel_rfl, by kernel_rfl, by kernel_rfl, by kernel_rfl, by kernel_rfl, by kernel_rfl, by kernel_rfl⟩ (first_data ▸ h6) (accept_data ▸ h7)⟩
def laidA : List (String × DataW Unit) := [("math/bits.deBruijn32tab", Rows.laid_math_bits_deBruijn32tab), ("math/bits.deBruijn64tab", Rows.laid_math_bits_deBruijn64tab), ("internal/strconv.uint64pow10", Rows.laid_internal_strconv_uint64pow10), ("unicode/utf8.acceptRanges", Rows.laid_unicode_utf8_acceptRanges), ("strconv.ErrRange", Rows.laid_strconv_ErrRange), ("strconv.ErrSyntax", Rows.laid_strconv_ErrSyntax), ("unicode/utf8.first", Rows.laid_unicode_utf8_first)]
theorem lq_of_laidA {W : World} (h : laidMetH Tryz.prog laidA W) (hs : W.ShapedOpen Tryz.prog) : Lq W := by
  rw [MakeChecks.laidMetH_plain _ _ _ (by kernel_rfl)] at h
  have h2 := h.tail.tail
  have h4 := h2.tail.tail
  exact lq_of hs h2 h4.tail h4 (Lib.laidMet.reads h (by simp [laidA])) (Lib.laidMet.reads h (by simp [laidA]))
theorem door_metA (os : Os) (args : Array Value) : laidMetH Tryz.prog laidA ((World.laidAll Tryz.prog os laidA).forCall (fun _ _ => 0) ⟨#[], args, []⟩).memory := by
  rw [MakeChecks.laidMetH_plain _ _ _ (by kernel_rfl)]
  exact laidMet_laidAll _ (by kernel_rfl) (by kernel_rfl)
theorem handed_laid {H : Type} {enc : TypeId × Value → H} {a : Assume} {C : Checked} {os : Os} {f : FuncId} {fn : Func} {s : ChangeSpec} {conds : List PathCond} {apart fresh handsOn again : Bool} {X : World → Array Value → Prop}
    (hX : ∀ (w w' : World) (args : Array Value), w.heap = w'.heap → X w args → X w' args)
    (own : ownKnob C.prog.godebug = none) (started : os.Started) (noInit : C.prog.inits.idxOf? f = none) (hfn : C.prog.funcs[f]? = some fn)
    (witness : ∃ (w : World) (tape : Tape) (i : Input), w.os = os ∧ (w.forCall tape i).Shaped C.prog ∧ i.vars = [] ∧ Input.okWide C.prog (w.forCall tape i) .any w.heap.size f i ∧
      ((s.pre enc C.prog fn conds apart (w.forCall tape i).memory i.args ∧ X (w.forCall tape i).memory i.args) ∧ sizedMet enc C.prog fn (OpenSpec.ofChange s) apart (w.forCall tape i).memory i.args) ∧ a.holds C.prog (lone (Frame.enter C.prog f i.args .normal) [] (w.forCall tape i)))
    (contract : ∀ (W : World) (base : Nat) (args : Array Value) (ds gs : List (DataW H)) (before : List MemPlace),
      (∀ (j : Nat) t v, fn.params[j]? = some t → args[j]? = some v → Value.okWide C.prog W .any base t v) →
      DataW.Whole enc C.prog fn.params.toList s.vars apart W args.toList ds gs before →
      (DataW.weightsEach C.prog (fn.params.toList ++ s.plain.varTypes C.prog) (ds ++ gs)).all (· ≤ reachBytes) = true → X W args → W.ShapedOpen C.prog →
      Calls C.prog f args W fun e W' => ∃ v, e = .returned v ∧ s.post enc C.prog fn apart fresh handsOn again W args v W') :
    ReturnsInHanded a C os f .any (fun w args => (s.pre enc C.prog fn conds apart w args ∧ X w args) ∧ sizedMet enc C.prog fn (OpenSpec.ofChange s) apart w args) (s.post enc C.prog fn apart fresh handsOn again) := by
  refine returnsInHanded_of_calls own started noInit witness ?_
  intro w tape i _ hsh _ hok hpre _
  obtain ⟨_, _, _, fn', hfn', _, _, _, _, hval⟩ := hok
  have e : fn' = fn := Option.some.inj (hfn'.symm.trans hfn)
  subst e
  obtain ⟨⟨⟨ds, gs, before, hw, _⟩, hx⟩, hz⟩ := hpre
  refine (contract (w.forCall tape i) w.heap.size i.args ds gs before hval (DataW.Whole.of_heap (w' := w.forCall tape i) (by rfl) hw) (hz.weights hw) (hX _ _ _ (by rfl) hx) hsh).mono fun e W' ⟨v, he, hp⟩ => ?_
  subst he
  exact ChangeSpec.post_blind hp
end Go.Proofs.YtfnbflhoaemmeaaGreatDoor
end
section
namespace Go.Proofs.YtfnbflhoaemmeaaGreatDoor.Ext
open Go.Shelf Go.RowKit Go.Sort Go.Lib Go.Proofs.YtfnbflhoaemmeaaGreatDoorW.PrintWords Go.Proofs.YtfnbflhoaemmeaaGreatDoorW.PrintLast Go.Proofs.YtfnbflhoaemmeaaGreatDoorW.PrintMore Go.Proofs.YtfnbflhoaemmeaaGreatDoor.EFxA
attribute [local go_sem] max2_int min2_int max_two min_two max_three min_three max_four min_four
set_option linter.unusedVariables false
set_option linter.unusedSimpArgs false
def isOk : Lib.NumEnd Nat → Option Nat
 | .ok u => some u
 | _ => none
theorem pu_ok (big : ByteArray) (u : Nat) (hs : big.size ≤ 1000000) (h : isOk (Lib.parseUintB 64 big.data.toList) = some u) (w : World) :
  Calls Tryz.prog 69 #[.string big, .int .i64 10, .int .i64 64] w fun e w' => e = .returned (.tuple #[.int .u64 (u : Int), .nilIface]) ∧ Below w.heap.size w w' := by
 rcases hp : Lib.parseUintB 64 big.data.toList with v | _ | _
 ·
  rw [hp] at h
  obtain rfl : v = u := Option.some.inj h
  exact (Tryz.strconv_ParseUint_10_at64_ok big (by omega) v hp w).mono fun e w' ⟨he, hw⟩ => ⟨he, by
   rcases hw with rfl | rfl
   ·exact Below.refl _ _
   ·exact Lib.bytesWorld_below _ _ _⟩
 ·rw [hp] at h; cases h
 ·rw [hp] at h; cases h
theorem pu_no (big : ByteArray) (hs : big.size ≤ 1000000) (h : isOk (Lib.parseUintB 64 big.data.toList) = none) (w : World) (hL : Aside0 (Lq w)) :
  Calls Tryz.prog 69 #[.string big, .int .i64 10, .int .i64 64] w fun e w' => ∃ (V : Int) (M : Nat), e = .returned (.tuple #[.int .u64 V, .iface 138 (.pointer (some ⟨M, 0, none⟩))]) ∧ Below w.heap.size w w' := by
 rcases hp : Lib.parseUintB 64 big.data.toList with v | _ | _
 ·rw [hp] at h; cases h
 ·
  obtain ⟨tp, p, he⟩ := hL.out.e0
  exact (Tryz.strconv_ParseUint_10_at64_syntax big (by omega) hp (.iface tp p) w he (.inr ⟨tp, p, rfl⟩)).mono fun e w' ⟨N, h1, _, _, h2⟩ => ⟨_, N, h1, h2⟩
 ·
  obtain ⟨tp, p, he⟩ := hL.out.e1
  exact (Tryz.strconv_ParseUint_10_at64_range big (by omega) hp (.iface tp p) w he (.inr ⟨tp, p, rfl⟩)).mono fun e w' ⟨N, h1, _, _, h2⟩ => ⟨_, N, h1, h2⟩
theorem rep_calls (c : Nat) (hc : c ≤ 4) (w : World) : Calls Tryz.prog 70 #[.string ⟨#[48]⟩, .int .i64 (c : Int)] w fun e w' => e = .returned (.string ⟨(Lib.repeatL [48] c).toArray⟩) ∧ Below w.heap.size w w' :=
 Tryz.strings_Repeat ⟨#[48]⟩ c w (by omega) (by show 1 * c ≤ _; omega)
theorem rep_size (c : Nat) (hc : c ≤ 4) : (⟨(Lib.repeatL [48] c).toArray⟩ : ByteArray).size ≤ 4 := by
 match c, hc with
 | 0, _ => decide
 | 1, _ => decide
 | 2, _ => decide
 | 3, _ => decide
 | 4, _ => decide
def parseTail (wd part : ByteArray) (neg : Bool) : Option (Int × Bool) :=
 match isOk (Lib.parseUintB 64 (wd ++ part ++ ⟨(Lib.repeatL [48] (4 - part.size)).toArray⟩).data.toList) with
 | some u => fixnum_signed.f 3 (u : Int) neg
 | none => some (0, false)
def fixnum_Parse.f (a0 : ByteArray) : Option (Int × Bool) :=
 if a0.size ≤ 100000 then
  (strings_CutPrefix.f a0 ⟨#[45]⟩).bind fun c => (strings_Cut.f c.1 ⟨#[46]⟩).bind fun d => (fixnum_plain.f (a0.size + 2) d.1).bind fun p =>
   if p = false then some (0, false) else if 1 < d.1.size ∧ bt d.1 0 = 48 then some (0, false) else if 16 < d.1.size then some (0, false)
   else if d.2.2 = true then (fixnum_plain.f (a0.size + 2) d.2.1).bind fun p2 => if p2 = false then some (0, false) else if 4 < d.2.1.size then some (0, false) else parseTail d.1 d.2.1 c.2
   else if d.2.1.size = 0 then parseTail d.1 d.2.1 c.2 else none
 else none
set_option maxHeartbeats 4000000 in
set_option maxRecDepth 100000 in
theorem fixnum_Parse.calls (a0 : ByteArray) (r1 : Int) (r2 : Bool) (w : World) (hL : Aside0 (Lq w)) (h : fixnum_Parse.f a0 = some (r1, r2)) :
  Calls Tryz.prog 45 #[.string a0] w fun e w' => e = .returned (.tuple #[.int .i64 r1, .bool r2]) ∧ Below w.heap.size w w' := by
 have HB := Aside0.mk (Below.refl w.heap.size w)
 unfold fixnum_Parse.f at h
 by_cases h0 : a0.size ≤ 100000
 ·rw [if_pos h0] at h
  have H := Option.bind_eq_some_iff.mp h
  clear h
  obtain ⟨⟨s1, neg⟩, A10, H⟩ := H
  have A1 := Aside0.mk A10
  clear A10
  replace H := Option.bind_eq_some_iff.mp H
  obtain ⟨⟨wd, part, point⟩, A20, H⟩ := H
  have A2 := Aside0.mk A20
  clear A20
  replace H := Option.bind_eq_some_iff.mp H
  obtain ⟨p, A30, H⟩ := H
  have A3 := Aside0.mk A30
  clear A30
  dsimp only at H A3
  by_cases g1 : p = false
  ·subst g1
   rw [if_pos rfl] at H
   simp only [Option.some.injEq, Prod.mk.injEq] at H
   obtain ⟨rfl, rfl⟩ := H
   go_enter Tryz.func45, Tryz.ntmps45
   go_wp2_with (first
    | ((with_reducible refine gate_callee (f := 66) rfl ?_); refine goesL_ (some 12) rfl rfl Tryz.func66 (by kernel_rfl) rfl #[.string a0, .string ⟨#[45]⟩] rfl (by (try simp only [List.map_toArray, List.map_cons, List.map_nil]); first | done | rfl) ?_; (refine (strings_CutPrefix.calls a0 ⟨#[45]⟩ s1 neg _ A1.out).mono ?_); rintro e w1 ⟨rfl, ⟨nd, rfl⟩⟩; refine ⟨_, rfl, ?_⟩)
    | ((with_reducible refine gate_callee (f := 67) rfl ?_); refine goesL_ (some 17) rfl rfl Tryz.func67 (by kernel_rfl) rfl #[.string s1, .string ⟨#[46]⟩] rfl (by (try simp only [List.map_toArray, List.map_cons, List.map_nil]); first | done | rfl) ?_; (refine (strings_Cut.calls s1 ⟨#[46]⟩ wd part _ _ (hL := ⟨hL.out.below (by repeat (first | (with_reducible first | exact HB.out | apply below_alloc | apply pw_below_drewN | apply below_drew1) | exact HB.out))⟩) A2.out).mono ?_); rintro e w1 ⟨rfl, ⟨nd, rfl⟩⟩; refine ⟨_, rfl, ?_⟩)
    | ((with_reducible refine gate_callee (f := 68) rfl ?_); refine goesL_ (some 22) rfl rfl Tryz.func68 (by kernel_rfl) rfl #[.string wd] rfl (by (try simp only [List.map_toArray, List.map_cons, List.map_nil]); first | done | rfl) ?_; (refine (fixnum_plain.calls (a0.size + 2) wd _ _ A3.out).mono ?_); rintro e w1 ⟨rfl, ⟨nd, rfl⟩⟩; refine ⟨_, rfl, ?_⟩))
   go_ret2
   exact ⟨by first | rfl | (simp; done) | (simp [*]; done), (by repeat (first | (with_reducible first | exact HB.out | apply below_alloc | apply pw_below_drewN | apply below_drew1) | exact HB.out))⟩
  ·obtain rfl : p = true := by cases p with | true => rfl | false => exact absurd rfl g1
   rw [if_neg (by decide)] at H
   by_cases g2 : 1 < wd.size ∧ bt wd 0 = 48
   ·rw [if_pos g2] at H
    simp only [Option.some.injEq, Prod.mk.injEq] at H
    obtain ⟨rfl, rfl⟩ := H
    have y1 : decide (1 < (wd.size : Int)) = true := decide_eq_true (by omega)
    have y2 : (0 < wd.size) = True := eq_true (by omega)
    have y2' : (0 < (wd.size : Int)) = True := eq_true (by omega)
    have y4 : ∀ h : 0 < wd.size, ((wd[0]'h).toNat : Int) = 48 := fun h => (bt_at wd 0 h).trans g2.2
    clear g2
    go_enter Tryz.func45, Tryz.ntmps45
    go_wp2_with (first
     | ((with_reducible refine gate_callee (f := 66) rfl ?_); refine goesL_ (some 12) rfl rfl Tryz.func66 (by kernel_rfl) rfl #[.string a0, .string ⟨#[45]⟩] rfl (by (try simp only [List.map_toArray, List.map_cons, List.map_nil]); first | done | rfl) ?_; (refine (strings_CutPrefix.calls a0 ⟨#[45]⟩ s1 neg _ A1.out).mono ?_); rintro e w1 ⟨rfl, ⟨nd, rfl⟩⟩; refine ⟨_, rfl, ?_⟩)
     | ((with_reducible refine gate_callee (f := 67) rfl ?_); refine goesL_ (some 17) rfl rfl Tryz.func67 (by kernel_rfl) rfl #[.string s1, .string ⟨#[46]⟩] rfl (by (try simp only [List.map_toArray, List.map_cons, List.map_nil]); first | done | rfl) ?_; (refine (strings_Cut.calls s1 ⟨#[46]⟩ wd part _ _ (hL := ⟨hL.out.below (by repeat (first | (with_reducible first | exact HB.out | apply below_alloc | apply pw_below_drewN | apply below_drew1) | exact HB.out))⟩) A2.out).mono ?_); rintro e w1 ⟨rfl, ⟨nd, rfl⟩⟩; refine ⟨_, rfl, ?_⟩)
     | ((with_reducible refine gate_callee (f := 68) rfl ?_); refine goesL_ (some 22) rfl rfl Tryz.func68 (by kernel_rfl) rfl #[.string wd] rfl (by (try simp only [List.map_toArray, List.map_cons, List.map_nil]); first | done | rfl) ?_; (refine (fixnum_plain.calls (a0.size + 2) wd _ _ A3.out).mono ?_); rintro e w1 ⟨rfl, ⟨nd, rfl⟩⟩; refine ⟨_, rfl, ?_⟩))
    go_ret2
    exact ⟨by first | rfl | (simp; done) | (simp [*]; done), (by repeat (first | (with_reducible first | exact HB.out | apply below_alloc | apply pw_below_drewN | apply below_drew1) | exact HB.out))⟩
   ·rw [if_neg g2] at H
    have hk : 1 < wd.size → (bt wd 0 == 48) = false := fun h => beq_eq_false_iff_ne.mpr (fun e => g2 ⟨h, e⟩)
    by_cases g3 : 16 < wd.size
    ·rw [if_pos g3] at H
     simp only [Option.some.injEq, Prod.mk.injEq] at H
     obtain ⟨rfl, rfl⟩ := H
     have y1 : decide (1 < (wd.size : Int)) = true := decide_eq_true (by omega)
     have y2 : (0 < wd.size) = True := eq_true (by omega)
     have y2' : (0 < (wd.size : Int)) = True := eq_true (by omega)
     have y3 := hk (by omega)
     have y4 : ∀ h : 0 < wd.size, ((wd[0]'h).toNat : Int) = bt wd 0 := fun h => bt_at wd 0 h
     have y5 : decide (16 < (wd.size : Int)) = true := decide_eq_true (by omega)
     clear g2 g3 hk
     go_enter Tryz.func45, Tryz.ntmps45
     go_wp2_with (first
      | ((with_reducible refine gate_callee (f := 66) rfl ?_); refine goesL_ (some 12) rfl rfl Tryz.func66 (by kernel_rfl) rfl #[.string a0, .string ⟨#[45]⟩] rfl (by (try simp only [List.map_toArray, List.map_cons, List.map_nil]); first | done | rfl) ?_; (refine (strings_CutPrefix.calls a0 ⟨#[45]⟩ s1 neg _ A1.out).mono ?_); rintro e w1 ⟨rfl, ⟨nd, rfl⟩⟩; refine ⟨_, rfl, ?_⟩)
      | ((with_reducible refine gate_callee (f := 67) rfl ?_); refine goesL_ (some 17) rfl rfl Tryz.func67 (by kernel_rfl) rfl #[.string s1, .string ⟨#[46]⟩] rfl (by (try simp only [List.map_toArray, List.map_cons, List.map_nil]); first | done | rfl) ?_; (refine (strings_Cut.calls s1 ⟨#[46]⟩ wd part _ _ (hL := ⟨hL.out.below (by repeat (first | (with_reducible first | exact HB.out | apply below_alloc | apply pw_below_drewN | apply below_drew1) | exact HB.out))⟩) A2.out).mono ?_); rintro e w1 ⟨rfl, ⟨nd, rfl⟩⟩; refine ⟨_, rfl, ?_⟩)
      | ((with_reducible refine gate_callee (f := 68) rfl ?_); refine goesL_ (some 22) rfl rfl Tryz.func68 (by kernel_rfl) rfl #[.string wd] rfl (by (try simp only [List.map_toArray, List.map_cons, List.map_nil]); first | done | rfl) ?_; (refine (fixnum_plain.calls (a0.size + 2) wd _ _ A3.out).mono ?_); rintro e w1 ⟨rfl, ⟨nd, rfl⟩⟩; refine ⟨_, rfl, ?_⟩))
     go_ret2
     exact ⟨by first | rfl | (simp; done) | (simp [*]; done), (by repeat (first | (with_reducible first | exact HB.out | apply below_alloc | apply pw_below_drewN | apply below_drew1) | exact HB.out))⟩
    ·rw [if_neg g3] at H
     have y5 : decide (16 < (wd.size : Int)) = false := decide_eq_false (by omega)
     by_cases g4 : 1 < wd.size
     ·have y1 : decide (1 < (wd.size : Int)) = true := decide_eq_true (by omega)
      have y2 : (0 < wd.size) = True := eq_true (by omega)
      have y2' : (0 < (wd.size : Int)) = True := eq_true (by omega)
      have y3 := hk (by omega)
      have y4 : ∀ h : 0 < wd.size, ((wd[0]'h).toNat : Int) = bt wd 0 := fun h => bt_at wd 0 h
      clear g2 hk
      cases point with
      | true =>
       rw [if_pos rfl] at H
       replace H := Option.bind_eq_some_iff.mp H
       obtain ⟨p2, A40, H⟩ := H
       have A4 := Aside0.mk A40
       clear A40
       by_cases g5 : p2 = false
       ·subst g5
        rw [if_pos rfl] at H
        simp only [Option.some.injEq, Prod.mk.injEq] at H
        obtain ⟨rfl, rfl⟩ := H
        go_enter Tryz.func45, Tryz.ntmps45
        go_wp2_with (first
         | ((with_reducible refine gate_callee (f := 66) rfl ?_); refine goesL_ (some 12) rfl rfl Tryz.func66 (by kernel_rfl) rfl #[.string a0, .string ⟨#[45]⟩] rfl (by (try simp only [List.map_toArray, List.map_cons, List.map_nil]); first | done | rfl) ?_; (refine (strings_CutPrefix.calls a0 ⟨#[45]⟩ s1 neg _ A1.out).mono ?_); rintro e w1 ⟨rfl, ⟨nd, rfl⟩⟩; refine ⟨_, rfl, ?_⟩)
         | ((with_reducible refine gate_callee (f := 67) rfl ?_); refine goesL_ (some 17) rfl rfl Tryz.func67 (by kernel_rfl) rfl #[.string s1, .string ⟨#[46]⟩] rfl (by (try simp only [List.map_toArray, List.map_cons, List.map_nil]); first | done | rfl) ?_; (refine (strings_Cut.calls s1 ⟨#[46]⟩ wd part _ _ (hL := ⟨hL.out.below (by repeat (first | (with_reducible first | exact HB.out | apply below_alloc | apply pw_below_drewN | apply below_drew1) | exact HB.out))⟩) A2.out).mono ?_); rintro e w1 ⟨rfl, ⟨nd, rfl⟩⟩; refine ⟨_, rfl, ?_⟩)
         | ((with_reducible refine gate_callee (f := 68) rfl ?_); refine goesL_ (some 22) rfl rfl Tryz.func68 (by kernel_rfl) rfl #[.string wd] rfl (by (try simp only [List.map_toArray, List.map_cons, List.map_nil]); first | done | rfl) ?_; (refine (fixnum_plain.calls (a0.size + 2) wd _ _ A3.out).mono ?_); rintro e w1 ⟨rfl, ⟨nd, rfl⟩⟩; refine ⟨_, rfl, ?_⟩)
         | ((with_reducible refine gate_callee (f := 68) rfl ?_); (try (refine gate_guard (by rfl) ?_; dsimp only)); refine goesL_ (some 43) rfl rfl Tryz.func68 (by kernel_rfl) rfl #[.string part] rfl (by (try simp only [List.map_toArray, List.map_cons, List.map_nil]); first | done | rfl) ?_; (refine (fixnum_plain.calls (a0.size + 2) part _ _ A4.out).mono ?_); rintro e w1 ⟨rfl, ⟨nd, rfl⟩⟩; refine ⟨_, rfl, ?_⟩))
        go_ret2
        exact ⟨by first | rfl | (simp; done) | (simp [*]; done), (by repeat (first | (with_reducible first | exact HB.out | apply below_alloc | apply pw_below_drewN | apply below_drew1) | exact HB.out))⟩
       ·obtain rfl : p2 = true := by cases p2 with | true => rfl | false => exact absurd rfl g5
        rw [if_neg (by decide)] at H
        by_cases g6 : 4 < part.size
        ·rw [if_pos g6] at H
         simp only [Option.some.injEq, Prod.mk.injEq] at H
         obtain ⟨rfl, rfl⟩ := H
         have y6 : decide (4 < (part.size : Int)) = true := decide_eq_true (by omega)
         go_enter Tryz.func45, Tryz.ntmps45
         go_wp2_with (first
          | ((with_reducible refine gate_callee (f := 66) rfl ?_); refine goesL_ (some 12) rfl rfl Tryz.func66 (by kernel_rfl) rfl #[.string a0, .string ⟨#[45]⟩] rfl (by (try simp only [List.map_toArray, List.map_cons, List.map_nil]); first | done | rfl) ?_; (refine (strings_CutPrefix.calls a0 ⟨#[45]⟩ s1 neg _ A1.out).mono ?_); rintro e w1 ⟨rfl, ⟨nd, rfl⟩⟩; refine ⟨_, rfl, ?_⟩)
          | ((with_reducible refine gate_callee (f := 67) rfl ?_); refine goesL_ (some 17) rfl rfl Tryz.func67 (by kernel_rfl) rfl #[.string s1, .string ⟨#[46]⟩] rfl (by (try simp only [List.map_toArray, List.map_cons, List.map_nil]); first | done | rfl) ?_; (refine (strings_Cut.calls s1 ⟨#[46]⟩ wd part _ _ (hL := ⟨hL.out.below (by repeat (first | (with_reducible first | exact HB.out | apply below_alloc | apply pw_below_drewN | apply below_drew1) | exact HB.out))⟩) A2.out).mono ?_); rintro e w1 ⟨rfl, ⟨nd, rfl⟩⟩; refine ⟨_, rfl, ?_⟩)
          | ((with_reducible refine gate_callee (f := 68) rfl ?_); refine goesL_ (some 22) rfl rfl Tryz.func68 (by kernel_rfl) rfl #[.string wd] rfl (by (try simp only [List.map_toArray, List.map_cons, List.map_nil]); first | done | rfl) ?_; (refine (fixnum_plain.calls (a0.size + 2) wd _ _ A3.out).mono ?_); rintro e w1 ⟨rfl, ⟨nd, rfl⟩⟩; refine ⟨_, rfl, ?_⟩)
          | ((with_reducible refine gate_callee (f := 68) rfl ?_); (try (refine gate_guard (by rfl) ?_; dsimp only)); refine goesL_ (some 43) rfl rfl Tryz.func68 (by kernel_rfl) rfl #[.string part] rfl (by (try simp only [List.map_toArray, List.map_cons, List.map_nil]); first | done | rfl) ?_; (refine (fixnum_plain.calls (a0.size + 2) part _ _ A4.out).mono ?_); rintro e w1 ⟨rfl, ⟨nd, rfl⟩⟩; refine ⟨_, rfl, ?_⟩))
         go_ret2
         exact ⟨by first | rfl | (simp; done) | (simp [*]; done), (by repeat (first | (with_reducible first | exact HB.out | apply below_alloc | apply pw_below_drewN | apply below_drew1) | exact HB.out))⟩
        ·rw [if_neg g6] at H
         have y6 : decide (4 < (part.size : Int)) = false := decide_eq_false (by omega)
         unfold parseTail at H
         obtain ⟨c, hcc⟩ : ∃ c, 4 - part.size = c := ⟨_, rfl⟩
         rw [hcc] at H
         have hc : (4 : Int) - (part.size : Int) = (c : Int) := by omega
         have hrep := fun w => rep_calls c (by omega) w
         obtain ⟨rp, hrp, hrz⟩ : ∃ rp : ByteArray, (⟨(Lib.repeatL [48] c).toArray⟩ : ByteArray) = rp ∧ rp.size ≤ 4 := ⟨_, rfl, rep_size c (by omega)⟩
         rw [hrp] at H hrep
         obtain ⟨big, hbig⟩ : ∃ big : ByteArray, wd ++ part ++ rp = big := ⟨_, rfl⟩
         have hbs : big.size ≤ 1000000 := by rw [← hbig, ByteArray.size_append, ByteArray.size_append]; omega
         have z1 : (9223372036854775807 < wd.size + part.size) = False := eq_false (by omega)
         have z2 : (9223372036854775807 < wd.size + part.size + rp.size) = False := eq_false (by omega)
         have z3 : (9223372036854775807 < (wd ++ part).size + rp.size) = False := eq_false (by rw [ByteArray.size_append]; omega)
         rw [hbig] at H
         clear g6
         cases hpu : isOk (Lib.parseUintB 64 big.data.toList) with
         | some u =>
          rw [hpu] at H
          have A5 := Aside0.mk H
          clear H
          go_enter Tryz.func45, Tryz.ntmps45
          go_wp2_with (first
           | ((with_reducible refine gate_callee (f := 66) rfl ?_); refine goesL_ (some 12) rfl rfl Tryz.func66 (by kernel_rfl) rfl #[.string a0, .string ⟨#[45]⟩] rfl (by (try simp only [List.map_toArray, List.map_cons, List.map_nil]); first | done | rfl) ?_; (refine (strings_CutPrefix.calls a0 ⟨#[45]⟩ s1 neg _ A1.out).mono ?_); rintro e w1 ⟨rfl, ⟨nd, rfl⟩⟩; refine ⟨_, rfl, ?_⟩)
           | ((with_reducible refine gate_callee (f := 67) rfl ?_); refine goesL_ (some 17) rfl rfl Tryz.func67 (by kernel_rfl) rfl #[.string s1, .string ⟨#[46]⟩] rfl (by (try simp only [List.map_toArray, List.map_cons, List.map_nil]); first | done | rfl) ?_; (refine (strings_Cut.calls s1 ⟨#[46]⟩ wd part _ _ (hL := ⟨hL.out.below (by repeat (first | (with_reducible first | exact HB.out | apply below_alloc | apply pw_below_drewN | apply below_drew1) | exact HB.out))⟩) A2.out).mono ?_); rintro e w1 ⟨rfl, ⟨nd, rfl⟩⟩; refine ⟨_, rfl, ?_⟩)
           | ((with_reducible refine gate_callee (f := 68) rfl ?_); refine goesL_ (some 22) rfl rfl Tryz.func68 (by kernel_rfl) rfl #[.string wd] rfl (by (try simp only [List.map_toArray, List.map_cons, List.map_nil]); first | done | rfl) ?_; (refine (fixnum_plain.calls (a0.size + 2) wd _ _ A3.out).mono ?_); rintro e w1 ⟨rfl, ⟨nd, rfl⟩⟩; refine ⟨_, rfl, ?_⟩)
           | ((with_reducible refine gate_callee (f := 68) rfl ?_); (try (refine gate_guard (by rfl) ?_; dsimp only)); refine goesL_ (some 43) rfl rfl Tryz.func68 (by kernel_rfl) rfl #[.string part] rfl (by (try simp only [List.map_toArray, List.map_cons, List.map_nil]); first | done | rfl) ?_; (refine (fixnum_plain.calls (a0.size + 2) part _ _ A4.out).mono ?_); rintro e w1 ⟨rfl, ⟨nd, rfl⟩⟩; refine ⟨_, rfl, ?_⟩)
           | ((with_reducible refine gate_callee (f := 70) rfl ?_); refine goesL_ (some 59) rfl rfl Tryz.func70 (by kernel_rfl) rfl #[.string ⟨#[48]⟩, .int .i64 (c : Int)] rfl (by (try simp only [List.map_toArray, List.map_cons, List.map_nil]); first | done | rfl) ?_; (refine (hrep _).mono ?_); rintro e w2 ⟨rfl, hb⟩; refine ⟨_, rfl, ?_⟩; have n1_ := Aside0.mk (below_step (by repeat (first | (with_reducible first | exact HB.out | apply below_alloc | apply pw_below_drewN | apply below_drew1) | exact HB.out)) hb); clear HB; have HB := n1_; clear n1_; clear hb)
           | ((with_reducible refine gate_callee (f := 69) rfl ?_); refine goesL_ (some 61) rfl rfl Tryz.func69 (by kernel_rfl) rfl #[.string big, .int .i64 10, .int .i64 64] rfl (by (try simp only [List.map_toArray, List.map_cons, List.map_nil]); first | done | rfl) ?_; (refine (pu_ok big u hbs hpu _).mono ?_); rintro e w3 ⟨rfl, hb⟩; refine ⟨_, rfl, ?_⟩; have n1_ := Aside0.mk (below_step (by repeat (first | (with_reducible first | exact HB.out | apply below_alloc | apply pw_below_drewN | apply below_drew1) | exact HB.out)) hb); clear HB; have HB := n1_; clear n1_; clear hb)
           | ((with_reducible refine gate_callee (f := 71) rfl ?_); refine goesL_ (some 68) rfl rfl Tryz.func71 (by kernel_rfl) rfl #[.int .u64 (u : Int), .bool neg] rfl (by (try simp only [List.map_toArray, List.map_cons, List.map_nil]); first | done | rfl) ?_; (refine (fixnum_signed.calls 3 (u : Int) neg _ _ _ A5.out).mono ?_); rintro e w1 ⟨rfl, ⟨nd, rfl⟩⟩; refine ⟨_, rfl, ?_⟩))
          go_ret2
          exact ⟨by first | rfl | (simp; done) | (simp [*]; done), (by repeat (first | (with_reducible first | exact HB.out | apply below_alloc | apply pw_below_drewN | apply below_drew1) | exact HB.out))⟩
         | none =>
          rw [hpu] at H
          simp only [Option.some.injEq, Prod.mk.injEq] at H
          obtain ⟨rfl, rfl⟩ := H
          go_enter Tryz.func45, Tryz.ntmps45
          go_wp2_with (first
           | ((with_reducible refine gate_callee (f := 66) rfl ?_); refine goesL_ (some 12) rfl rfl Tryz.func66 (by kernel_rfl) rfl #[.string a0, .string ⟨#[45]⟩] rfl (by (try simp only [List.map_toArray, List.map_cons, List.map_nil]); first | done | rfl) ?_; (refine (strings_CutPrefix.calls a0 ⟨#[45]⟩ s1 neg _ A1.out).mono ?_); rintro e w1 ⟨rfl, ⟨nd, rfl⟩⟩; refine ⟨_, rfl, ?_⟩)
           | ((with_reducible refine gate_callee (f := 67) rfl ?_); refine goesL_ (some 17) rfl rfl Tryz.func67 (by kernel_rfl) rfl #[.string s1, .string ⟨#[46]⟩] rfl (by (try simp only [List.map_toArray, List.map_cons, List.map_nil]); first | done | rfl) ?_; (refine (strings_Cut.calls s1 ⟨#[46]⟩ wd part _ _ (hL := ⟨hL.out.below (by repeat (first | (with_reducible first | exact HB.out | apply below_alloc | apply pw_below_drewN | apply below_drew1) | exact HB.out))⟩) A2.out).mono ?_); rintro e w1 ⟨rfl, ⟨nd, rfl⟩⟩; refine ⟨_, rfl, ?_⟩)
           | ((with_reducible refine gate_callee (f := 68) rfl ?_); refine goesL_ (some 22) rfl rfl Tryz.func68 (by kernel_rfl) rfl #[.string wd] rfl (by (try simp only [List.map_toArray, List.map_cons, List.map_nil]); first | done | rfl) ?_; (refine (fixnum_plain.calls (a0.size + 2) wd _ _ A3.out).mono ?_); rintro e w1 ⟨rfl, ⟨nd, rfl⟩⟩; refine ⟨_, rfl, ?_⟩)
           | ((with_reducible refine gate_callee (f := 68) rfl ?_); (try (refine gate_guard (by rfl) ?_; dsimp only)); refine goesL_ (some 43) rfl rfl Tryz.func68 (by kernel_rfl) rfl #[.string part] rfl (by (try simp only [List.map_toArray, List.map_cons, List.map_nil]); first | done | rfl) ?_; (refine (fixnum_plain.calls (a0.size + 2) part _ _ A4.out).mono ?_); rintro e w1 ⟨rfl, ⟨nd, rfl⟩⟩; refine ⟨_, rfl, ?_⟩)
           | ((with_reducible refine gate_callee (f := 70) rfl ?_); refine goesL_ (some 59) rfl rfl Tryz.func70 (by kernel_rfl) rfl #[.string ⟨#[48]⟩, .int .i64 (c : Int)] rfl (by (try simp only [List.map_toArray, List.map_cons, List.map_nil]); first | done | rfl) ?_; (refine (hrep _).mono ?_); rintro e w2 ⟨rfl, hb⟩; refine ⟨_, rfl, ?_⟩; have n1_ := Aside0.mk (below_step (by repeat (first | (with_reducible first | exact HB.out | apply below_alloc | apply pw_below_drewN | apply below_drew1) | exact HB.out)) hb); clear HB; have HB := n1_; clear n1_; clear hb)
           | ((with_reducible refine gate_callee (f := 69) rfl ?_); refine goesL_ (some 61) rfl rfl Tryz.func69 (by kernel_rfl) rfl #[.string big, .int .i64 10, .int .i64 64] rfl (by (try simp only [List.map_toArray, List.map_cons, List.map_nil]); first | done | rfl) ?_; (refine (pu_no big hbs hpu _ (⟨hL.out.below (by repeat (first | (with_reducible first | exact HB.out | apply below_alloc | apply pw_below_drewN | apply below_drew1) | exact HB.out))⟩)).mono ?_); rintro e w3 ⟨V, M, rfl, hb⟩; refine ⟨_, rfl, ?_⟩; have n1_ := Aside0.mk (below_step (by repeat (first | (with_reducible first | exact HB.out | apply below_alloc | apply pw_below_drewN | apply below_drew1) | exact HB.out)) hb); clear HB; have HB := n1_; clear n1_; clear hb))
          go_ret2
          exact ⟨by first | rfl | (simp; done) | (simp [*]; done), (by repeat (first | (with_reducible first | exact HB.out | apply below_alloc | apply pw_below_drewN | apply below_drew1) | exact HB.out))⟩
      | false =>
       rw [if_neg (by decide)] at H
       by_cases g6 : part.size = 0
       ·rw [if_pos g6] at H
        unfold parseTail at H
        obtain ⟨c, hcc⟩ : ∃ c, 4 - part.size = c := ⟨_, rfl⟩
        rw [hcc] at H
        have hc : (4 : Int) - (part.size : Int) = (c : Int) := by omega
        have hrep := fun w => rep_calls c (by omega) w
        obtain ⟨rp, hrp, hrz⟩ : ∃ rp : ByteArray, (⟨(Lib.repeatL [48] c).toArray⟩ : ByteArray) = rp ∧ rp.size ≤ 4 := ⟨_, rfl, rep_size c (by omega)⟩
        rw [hrp] at H hrep
        obtain ⟨big, hbig⟩ : ∃ big : ByteArray, wd ++ part ++ rp = big := ⟨_, rfl⟩
        have hbs : big.size ≤ 1000000 := by rw [← hbig, ByteArray.size_append, ByteArray.size_append]; omega
        have z1 : (9223372036854775807 < wd.size + part.size) = False := eq_false (by omega)
        have z2 : (9223372036854775807 < wd.size + part.size + rp.size) = False := eq_false (by omega)
        have z3 : (9223372036854775807 < (wd ++ part).size + rp.size) = False := eq_false (by rw [ByteArray.size_append]; omega)
        rw [hbig] at H
        clear g6
        cases hpu : isOk (Lib.parseUintB 64 big.data.toList) with
        | some u =>
         rw [hpu] at H
         have A5 := Aside0.mk H
         clear H
         go_enter Tryz.func45, Tryz.ntmps45
         go_wp2_with (first
          | ((with_reducible refine gate_callee (f := 66) rfl ?_); refine goesL_ (some 12) rfl rfl Tryz.func66 (by kernel_rfl) rfl #[.string a0, .string ⟨#[45]⟩] rfl (by (try simp only [List.map_toArray, List.map_cons, List.map_nil]); first | done | rfl) ?_; (refine (strings_CutPrefix.calls a0 ⟨#[45]⟩ s1 neg _ A1.out).mono ?_); rintro e w1 ⟨rfl, ⟨nd, rfl⟩⟩; refine ⟨_, rfl, ?_⟩)
          | ((with_reducible refine gate_callee (f := 67) rfl ?_); refine goesL_ (some 17) rfl rfl Tryz.func67 (by kernel_rfl) rfl #[.string s1, .string ⟨#[46]⟩] rfl (by (try simp only [List.map_toArray, List.map_cons, List.map_nil]); first | done | rfl) ?_; (refine (strings_Cut.calls s1 ⟨#[46]⟩ wd part _ _ (hL := ⟨hL.out.below (by repeat (first | (with_reducible first | exact HB.out | apply below_alloc | apply pw_below_drewN | apply below_drew1) | exact HB.out))⟩) A2.out).mono ?_); rintro e w1 ⟨rfl, ⟨nd, rfl⟩⟩; refine ⟨_, rfl, ?_⟩)
          | ((with_reducible refine gate_callee (f := 68) rfl ?_); refine goesL_ (some 22) rfl rfl Tryz.func68 (by kernel_rfl) rfl #[.string wd] rfl (by (try simp only [List.map_toArray, List.map_cons, List.map_nil]); first | done | rfl) ?_; (refine (fixnum_plain.calls (a0.size + 2) wd _ _ A3.out).mono ?_); rintro e w1 ⟨rfl, ⟨nd, rfl⟩⟩; refine ⟨_, rfl, ?_⟩)
          | ((with_reducible refine gate_callee (f := 70) rfl ?_); refine goesL_ (some 59) rfl rfl Tryz.func70 (by kernel_rfl) rfl #[.string ⟨#[48]⟩, .int .i64 (c : Int)] rfl (by (try simp only [List.map_toArray, List.map_cons, List.map_nil]); first | done | rfl) ?_; (refine (hrep _).mono ?_); rintro e w2 ⟨rfl, hb⟩; refine ⟨_, rfl, ?_⟩; have n1_ := Aside0.mk (below_step (by repeat (first | (with_reducible first | exact HB.out | apply below_alloc | apply pw_below_drewN | apply below_drew1) | exact HB.out)) hb); clear HB; have HB := n1_; clear n1_; clear hb)
          | ((with_reducible refine gate_callee (f := 69) rfl ?_); refine goesL_ (some 61) rfl rfl Tryz.func69 (by kernel_rfl) rfl #[.string big, .int .i64 10, .int .i64 64] rfl (by (try simp only [List.map_toArray, List.map_cons, List.map_nil]); first | done | rfl) ?_; (refine (pu_ok big u hbs hpu _).mono ?_); rintro e w3 ⟨rfl, hb⟩; refine ⟨_, rfl, ?_⟩; have n1_ := Aside0.mk (below_step (by repeat (first | (with_reducible first | exact HB.out | apply below_alloc | apply pw_below_drewN | apply below_drew1) | exact HB.out)) hb); clear HB; have HB := n1_; clear n1_; clear hb)
          | ((with_reducible refine gate_callee (f := 71) rfl ?_); refine goesL_ (some 68) rfl rfl Tryz.func71 (by kernel_rfl) rfl #[.int .u64 (u : Int), .bool neg] rfl (by (try simp only [List.map_toArray, List.map_cons, List.map_nil]); first | done | rfl) ?_; (refine (fixnum_signed.calls 3 (u : Int) neg _ _ _ A5.out).mono ?_); rintro e w1 ⟨rfl, ⟨nd, rfl⟩⟩; refine ⟨_, rfl, ?_⟩))
         go_ret2
         exact ⟨by first | rfl | (simp; done) | (simp [*]; done), (by repeat (first | (with_reducible first | exact HB.out | apply below_alloc | apply pw_below_drewN | apply below_drew1) | exact HB.out))⟩
        | none =>
         rw [hpu] at H
         simp only [Option.some.injEq, Prod.mk.injEq] at H
         obtain ⟨rfl, rfl⟩ := H
         go_enter Tryz.func45, Tryz.ntmps45
         go_wp2_with (first
          | ((with_reducible refine gate_callee (f := 66) rfl ?_); refine goesL_ (some 12) rfl rfl Tryz.func66 (by kernel_rfl) rfl #[.string a0, .string ⟨#[45]⟩] rfl (by (try simp only [List.map_toArray, List.map_cons, List.map_nil]); first | done | rfl) ?_; (refine (strings_CutPrefix.calls a0 ⟨#[45]⟩ s1 neg _ A1.out).mono ?_); rintro e w1 ⟨rfl, ⟨nd, rfl⟩⟩; refine ⟨_, rfl, ?_⟩)
          | ((with_reducible refine gate_callee (f := 67) rfl ?_); refine goesL_ (some 17) rfl rfl Tryz.func67 (by kernel_rfl) rfl #[.string s1, .string ⟨#[46]⟩] rfl (by (try simp only [List.map_toArray, List.map_cons, List.map_nil]); first | done | rfl) ?_; (refine (strings_Cut.calls s1 ⟨#[46]⟩ wd part _ _ (hL := ⟨hL.out.below (by repeat (first | (with_reducible first | exact HB.out | apply below_alloc | apply pw_below_drewN | apply below_drew1) | exact HB.out))⟩) A2.out).mono ?_); rintro e w1 ⟨rfl, ⟨nd, rfl⟩⟩; refine ⟨_, rfl, ?_⟩)
          | ((with_reducible refine gate_callee (f := 68) rfl ?_); refine goesL_ (some 22) rfl rfl Tryz.func68 (by kernel_rfl) rfl #[.string wd] rfl (by (try simp only [List.map_toArray, List.map_cons, List.map_nil]); first | done | rfl) ?_; (refine (fixnum_plain.calls (a0.size + 2) wd _ _ A3.out).mono ?_); rintro e w1 ⟨rfl, ⟨nd, rfl⟩⟩; refine ⟨_, rfl, ?_⟩)
          | ((with_reducible refine gate_callee (f := 70) rfl ?_); refine goesL_ (some 59) rfl rfl Tryz.func70 (by kernel_rfl) rfl #[.string ⟨#[48]⟩, .int .i64 (c : Int)] rfl (by (try simp only [List.map_toArray, List.map_cons, List.map_nil]); first | done | rfl) ?_; (refine (hrep _).mono ?_); rintro e w2 ⟨rfl, hb⟩; refine ⟨_, rfl, ?_⟩; have n1_ := Aside0.mk (below_step (by repeat (first | (with_reducible first | exact HB.out | apply below_alloc | apply pw_below_drewN | apply below_drew1) | exact HB.out)) hb); clear HB; have HB := n1_; clear n1_; clear hb)
          | ((with_reducible refine gate_callee (f := 69) rfl ?_); refine goesL_ (some 61) rfl rfl Tryz.func69 (by kernel_rfl) rfl #[.string big, .int .i64 10, .int .i64 64] rfl (by (try simp only [List.map_toArray, List.map_cons, List.map_nil]); first | done | rfl) ?_; (refine (pu_no big hbs hpu _ (⟨hL.out.below (by repeat (first | (with_reducible first | exact HB.out | apply below_alloc | apply pw_below_drewN | apply below_drew1) | exact HB.out))⟩)).mono ?_); rintro e w3 ⟨V, M, rfl, hb⟩; refine ⟨_, rfl, ?_⟩; have n1_ := Aside0.mk (below_step (by repeat (first | (with_reducible first | exact HB.out | apply below_alloc | apply pw_below_drewN | apply below_drew1) | exact HB.out)) hb); clear HB; have HB := n1_; clear n1_; clear hb))
         go_ret2
         exact ⟨by first | rfl | (simp; done) | (simp [*]; done), (by repeat (first | (with_reducible first | exact HB.out | apply below_alloc | apply pw_below_drewN | apply below_drew1) | exact HB.out))⟩
       ·rw [if_neg g6] at H; cases H
     ·have y1 : decide (1 < (wd.size : Int)) = false := decide_eq_false (by omega)
      clear g2 hk
      cases point with
      | true =>
       rw [if_pos rfl] at H
       replace H := Option.bind_eq_some_iff.mp H
       obtain ⟨p2, A40, H⟩ := H
       have A4 := Aside0.mk A40
       clear A40
       by_cases g5 : p2 = false
       ·subst g5
        rw [if_pos rfl] at H
        simp only [Option.some.injEq, Prod.mk.injEq] at H
        obtain ⟨rfl, rfl⟩ := H
        go_enter Tryz.func45, Tryz.ntmps45
        go_wp2_with (first
         | ((with_reducible refine gate_callee (f := 66) rfl ?_); refine goesL_ (some 12) rfl rfl Tryz.func66 (by kernel_rfl) rfl #[.string a0, .string ⟨#[45]⟩] rfl (by (try simp only [List.map_toArray, List.map_cons, List.map_nil]); first | done | rfl) ?_; (refine (strings_CutPrefix.calls a0 ⟨#[45]⟩ s1 neg _ A1.out).mono ?_); rintro e w1 ⟨rfl, ⟨nd, rfl⟩⟩; refine ⟨_, rfl, ?_⟩)
         | ((with_reducible refine gate_callee (f := 67) rfl ?_); refine goesL_ (some 17) rfl rfl Tryz.func67 (by kernel_rfl) rfl #[.string s1, .string ⟨#[46]⟩] rfl (by (try simp only [List.map_toArray, List.map_cons, List.map_nil]); first | done | rfl) ?_; (refine (strings_Cut.calls s1 ⟨#[46]⟩ wd part _ _ (hL := ⟨hL.out.below (by repeat (first | (with_reducible first | exact HB.out | apply below_alloc | apply pw_below_drewN | apply below_drew1) | exact HB.out))⟩) A2.out).mono ?_); rintro e w1 ⟨rfl, ⟨nd, rfl⟩⟩; refine ⟨_, rfl, ?_⟩)
         | ((with_reducible refine gate_callee (f := 68) rfl ?_); refine goesL_ (some 22) rfl rfl Tryz.func68 (by kernel_rfl) rfl #[.string wd] rfl (by (try simp only [List.map_toArray, List.map_cons, List.map_nil]); first | done | rfl) ?_; (refine (fixnum_plain.calls (a0.size + 2) wd _ _ A3.out).mono ?_); rintro e w1 ⟨rfl, ⟨nd, rfl⟩⟩; refine ⟨_, rfl, ?_⟩)
         | ((with_reducible refine gate_callee (f := 68) rfl ?_); (try (refine gate_guard (by rfl) ?_; dsimp only)); refine goesL_ (some 43) rfl rfl Tryz.func68 (by kernel_rfl) rfl #[.string part] rfl (by (try simp only [List.map_toArray, List.map_cons, List.map_nil]); first | done | rfl) ?_; (refine (fixnum_plain.calls (a0.size + 2) part _ _ A4.out).mono ?_); rintro e w1 ⟨rfl, ⟨nd, rfl⟩⟩; refine ⟨_, rfl, ?_⟩))
        go_ret2
        exact ⟨by first | rfl | (simp; done) | (simp [*]; done), (by repeat (first | (with_reducible first | exact HB.out | apply below_alloc | apply pw_below_drewN | apply below_drew1) | exact HB.out))⟩
       ·obtain rfl : p2 = true := by cases p2 with | true => rfl | false => exact absurd rfl g5
        rw [if_neg (by decide)] at H
        by_cases g6 : 4 < part.size
        ·rw [if_pos g6] at H
         simp only [Option.some.injEq, Prod.mk.injEq] at H
         obtain ⟨rfl, rfl⟩ := H
         have y6 : decide (4 < (part.size : Int)) = true := decide_eq_true (by omega)
         go_enter Tryz.func45, Tryz.ntmps45
         go_wp2_with (first
          | ((with_reducible refine gate_callee (f := 66) rfl ?_); refine goesL_ (some 12) rfl rfl Tryz.func66 (by kernel_rfl) rfl #[.string a0, .string ⟨#[45]⟩] rfl (by (try simp only [List.map_toArray, List.map_cons, List.map_nil]); first | done | rfl) ?_; (refine (strings_CutPrefix.calls a0 ⟨#[45]⟩ s1 neg _ A1.out).mono ?_); rintro e w1 ⟨rfl, ⟨nd, rfl⟩⟩; refine ⟨_, rfl, ?_⟩)
          | ((with_reducible refine gate_callee (f := 67) rfl ?_); refine goesL_ (some 17) rfl rfl Tryz.func67 (by kernel_rfl) rfl #[.string s1, .string ⟨#[46]⟩] rfl (by (try simp only [List.map_toArray, List.map_cons, List.map_nil]); first | done | rfl) ?_; (refine (strings_Cut.calls s1 ⟨#[46]⟩ wd part _ _ (hL := ⟨hL.out.below (by repeat (first | (with_reducible first | exact HB.out | apply below_alloc | apply pw_below_drewN | apply below_drew1) | exact HB.out))⟩) A2.out).mono ?_); rintro e w1 ⟨rfl, ⟨nd, rfl⟩⟩; refine ⟨_, rfl, ?_⟩)
          | ((with_reducible refine gate_callee (f := 68) rfl ?_); refine goesL_ (some 22) rfl rfl Tryz.func68 (by kernel_rfl) rfl #[.string wd] rfl (by (try simp only [List.map_toArray, List.map_cons, List.map_nil]); first | done | rfl) ?_; (refine (fixnum_plain.calls (a0.size + 2) wd _ _ A3.out).mono ?_); rintro e w1 ⟨rfl, ⟨nd, rfl⟩⟩; refine ⟨_, rfl, ?_⟩)
          | ((with_reducible refine gate_callee (f := 68) rfl ?_); (try (refine gate_guard (by rfl) ?_; dsimp only)); refine goesL_ (some 43) rfl rfl Tryz.func68 (by kernel_rfl) rfl #[.string part] rfl (by (try simp only [List.map_toArray, List.map_cons, List.map_nil]); first | done | rfl) ?_; (refine (fixnum_plain.calls (a0.size + 2) part _ _ A4.out).mono ?_); rintro e w1 ⟨rfl, ⟨nd, rfl⟩⟩; refine ⟨_, rfl, ?_⟩))
         go_ret2
         exact ⟨by first | rfl | (simp; done) | (simp [*]; done), (by repeat (first | (with_reducible first | exact HB.out | apply below_alloc | apply pw_below_drewN | apply below_drew1) | exact HB.out))⟩
        ·rw [if_neg g6] at H
         have y6 : decide (4 < (part.size : Int)) = false := decide_eq_false (by omega)
         unfold parseTail at H
         obtain ⟨c, hcc⟩ : ∃ c, 4 - part.size = c := ⟨_, rfl⟩
         rw [hcc] at H
         have hc : (4 : Int) - (part.size : Int) = (c : Int) := by omega
         have hrep := fun w => rep_calls c (by omega) w
         obtain ⟨rp, hrp, hrz⟩ : ∃ rp : ByteArray, (⟨(Lib.repeatL [48] c).toArray⟩ : ByteArray) = rp ∧ rp.size ≤ 4 := ⟨_, rfl, rep_size c (by omega)⟩
         rw [hrp] at H hrep
         obtain ⟨big, hbig⟩ : ∃ big : ByteArray, wd ++ part ++ rp = big := ⟨_, rfl⟩
         have hbs : big.size ≤ 1000000 := by rw [← hbig, ByteArray.size_append, ByteArray.size_append]; omega
         have z1 : (9223372036854775807 < wd.size + part.size) = False := eq_false (by omega)
         have z2 : (9223372036854775807 < wd.size + part.size + rp.size) = False := eq_false (by omega)
         have z3 : (9223372036854775807 < (wd ++ part).size + rp.size) = False := eq_false (by rw [ByteArray.size_append]; omega)
         rw [hbig] at H
         clear g6
         cases hpu : isOk (Lib.parseUintB 64 big.data.toList) with
         | some u =>
          rw [hpu] at H
          have A5 := Aside0.mk H
          clear H
          go_enter Tryz.func45, Tryz.ntmps45
          go_wp2_with (first
           | ((with_reducible refine gate_callee (f := 66) rfl ?_); refine goesL_ (some 12) rfl rfl Tryz.func66 (by kernel_rfl) rfl #[.string a0, .string ⟨#[45]⟩] rfl (by (try simp only [List.map_toArray, List.map_cons, List.map_nil]); first | done | rfl) ?_; (refine (strings_CutPrefix.calls a0 ⟨#[45]⟩ s1 neg _ A1.out).mono ?_); rintro e w1 ⟨rfl, ⟨nd, rfl⟩⟩; refine ⟨_, rfl, ?_⟩)
           | ((with_reducible refine gate_callee (f := 67) rfl ?_); refine goesL_ (some 17) rfl rfl Tryz.func67 (by kernel_rfl) rfl #[.string s1, .string ⟨#[46]⟩] rfl (by (try simp only [List.map_toArray, List.map_cons, List.map_nil]); first | done | rfl) ?_; (refine (strings_Cut.calls s1 ⟨#[46]⟩ wd part _ _ (hL := ⟨hL.out.below (by repeat (first | (with_reducible first | exact HB.out | apply below_alloc | apply pw_below_drewN | apply below_drew1) | exact HB.out))⟩) A2.out).mono ?_); rintro e w1 ⟨rfl, ⟨nd, rfl⟩⟩; refine ⟨_, rfl, ?_⟩)
           | ((with_reducible refine gate_callee (f := 68) rfl ?_); refine goesL_ (some 22) rfl rfl Tryz.func68 (by kernel_rfl) rfl #[.string wd] rfl (by (try simp only [List.map_toArray, List.map_cons, List.map_nil]); first | done | rfl) ?_; (refine (fixnum_plain.calls (a0.size + 2) wd _ _ A3.out).mono ?_); rintro e w1 ⟨rfl, ⟨nd, rfl⟩⟩; refine ⟨_, rfl, ?_⟩)
           | ((with_reducible refine gate_callee (f := 68) rfl ?_); (try (refine gate_guard (by rfl) ?_; dsimp only)); refine goesL_ (some 43) rfl rfl Tryz.func68 (by kernel_rfl) rfl #[.string part] rfl (by (try simp only [List.map_toArray, List.map_cons, List.map_nil]); first | done | rfl) ?_; (refine (fixnum_plain.calls (a0.size + 2) part _ _ A4.out).mono ?_); rintro e w1 ⟨rfl, ⟨nd, rfl⟩⟩; refine ⟨_, rfl, ?_⟩)
           | ((with_reducible refine gate_callee (f := 70) rfl ?_); refine goesL_ (some 59) rfl rfl Tryz.func70 (by kernel_rfl) rfl #[.string ⟨#[48]⟩, .int .i64 (c : Int)] rfl (by (try simp only [List.map_toArray, List.map_cons, List.map_nil]); first | done | rfl) ?_; (refine (hrep _).mono ?_); rintro e w2 ⟨rfl, hb⟩; refine ⟨_, rfl, ?_⟩; have n1_ := Aside0.mk (below_step (by repeat (first | (with_reducible first | exact HB.out | apply below_alloc | apply pw_below_drewN | apply below_drew1) | exact HB.out)) hb); clear HB; have HB := n1_; clear n1_; clear hb)
           | ((with_reducible refine gate_callee (f := 69) rfl ?_); refine goesL_ (some 61) rfl rfl Tryz.func69 (by kernel_rfl) rfl #[.string big, .int .i64 10, .int .i64 64] rfl (by (try simp only [List.map_toArray, List.map_cons, List.map_nil]); first | done | rfl) ?_; (refine (pu_ok big u hbs hpu _).mono ?_); rintro e w3 ⟨rfl, hb⟩; refine ⟨_, rfl, ?_⟩; have n1_ := Aside0.mk (below_step (by repeat (first | (with_reducible first | exact HB.out | apply below_alloc | apply pw_below_drewN | apply below_drew1) | exact HB.out)) hb); clear HB; have HB := n1_; clear n1_; clear hb)
           | ((with_reducible refine gate_callee (f := 71) rfl ?_); refine goesL_ (some 68) rfl rfl Tryz.func71 (by kernel_rfl) rfl #[.int .u64 (u : Int), .bool neg] rfl (by (try simp only [List.map_toArray, List.map_cons, List.map_nil]); first | done | rfl) ?_; (refine (fixnum_signed.calls 3 (u : Int) neg _ _ _ A5.out).mono ?_); rintro e w1 ⟨rfl, ⟨nd, rfl⟩⟩; refine ⟨_, rfl, ?_⟩))
          go_ret2
          exact ⟨by first | rfl | (simp; done) | (simp [*]; done), (by repeat (first | (with_reducible first | exact HB.out | apply below_alloc | apply pw_below_drewN | apply below_drew1) | exact HB.out))⟩
         | none =>
          rw [hpu] at H
          simp only [Option.some.injEq, Prod.mk.injEq] at H
          obtain ⟨rfl, rfl⟩ := H
          go_enter Tryz.func45, Tryz.ntmps45
          go_wp2_with (first
           | ((with_reducible refine gate_callee (f := 66) rfl ?_); refine goesL_ (some 12) rfl rfl Tryz.func66 (by kernel_rfl) rfl #[.string a0, .string ⟨#[45]⟩] rfl (by (try simp only [List.map_toArray, List.map_cons, List.map_nil]); first | done | rfl) ?_; (refine (strings_CutPrefix.calls a0 ⟨#[45]⟩ s1 neg _ A1.out).mono ?_); rintro e w1 ⟨rfl, ⟨nd, rfl⟩⟩; refine ⟨_, rfl, ?_⟩)
           | ((with_reducible refine gate_callee (f := 67) rfl ?_); refine goesL_ (some 17) rfl rfl Tryz.func67 (by kernel_rfl) rfl #[.string s1, .string ⟨#[46]⟩] rfl (by (try simp only [List.map_toArray, List.map_cons, List.map_nil]); first | done | rfl) ?_; (refine (strings_Cut.calls s1 ⟨#[46]⟩ wd part _ _ (hL := ⟨hL.out.below (by repeat (first | (with_reducible first | exact HB.out | apply below_alloc | apply pw_below_drewN | apply below_drew1) | exact HB.out))⟩) A2.out).mono ?_); rintro e w1 ⟨rfl, ⟨nd, rfl⟩⟩; refine ⟨_, rfl, ?_⟩)
           | ((with_reducible refine gate_callee (f := 68) rfl ?_); refine goesL_ (some 22) rfl rfl Tryz.func68 (by kernel_rfl) rfl #[.string wd] rfl (by (try simp only [List.map_toArray, List.map_cons, List.map_nil]); first | done | rfl) ?_; (refine (fixnum_plain.calls (a0.size + 2) wd _ _ A3.out).mono ?_); rintro e w1 ⟨rfl, ⟨nd, rfl⟩⟩; refine ⟨_, rfl, ?_⟩)
           | ((with_reducible refine gate_callee (f := 68) rfl ?_); (try (refine gate_guard (by rfl) ?_; dsimp only)); refine goesL_ (some 43) rfl rfl Tryz.func68 (by kernel_rfl) rfl #[.string part] rfl (by (try simp only [List.map_toArray, List.map_cons, List.map_nil]); first | done | rfl) ?_; (refine (fixnum_plain.calls (a0.size + 2) part _ _ A4.out).mono ?_); rintro e w1 ⟨rfl, ⟨nd, rfl⟩⟩; refine ⟨_, rfl, ?_⟩)
           | ((with_reducible refine gate_callee (f := 70) rfl ?_); refine goesL_ (some 59) rfl rfl Tryz.func70 (by kernel_rfl) rfl #[.string ⟨#[48]⟩, .int .i64 (c : Int)] rfl (by (try simp only [List.map_toArray, List.map_cons, List.map_nil]); first | done | rfl) ?_; (refine (hrep _).mono ?_); rintro e w2 ⟨rfl, hb⟩; refine ⟨_, rfl, ?_⟩; have n1_ := Aside0.mk (below_step (by repeat (first | (with_reducible first | exact HB.out | apply below_alloc | apply pw_below_drewN | apply below_drew1) | exact HB.out)) hb); clear HB; have HB := n1_; clear n1_; clear hb)
           | ((with_reducible refine gate_callee (f := 69) rfl ?_); refine goesL_ (some 61) rfl rfl Tryz.func69 (by kernel_rfl) rfl #[.string big, .int .i64 10, .int .i64 64] rfl (by (try simp only [List.map_toArray, List.map_cons, List.map_nil]); first | done | rfl) ?_; (refine (pu_no big hbs hpu _ (⟨hL.out.below (by repeat (first | (with_reducible first | exact HB.out | apply below_alloc | apply pw_below_drewN | apply below_drew1) | exact HB.out))⟩)).mono ?_); rintro e w3 ⟨V, M, rfl, hb⟩; refine ⟨_, rfl, ?_⟩; have n1_ := Aside0.mk (below_step (by repeat (first | (with_reducible first | exact HB.out | apply below_alloc | apply pw_below_drewN | apply below_drew1) | exact HB.out)) hb); clear HB; have HB := n1_; clear n1_; clear hb))
          go_ret2
          exact ⟨by first | rfl | (simp; done) | (simp [*]; done), (by repeat (first | (with_reducible first | exact HB.out | apply below_alloc | apply pw_below_drewN | apply below_drew1) | exact HB.out))⟩
      | false =>
       rw [if_neg (by decide)] at H
       by_cases g6 : part.size = 0
       ·rw [if_pos g6] at H
        unfold parseTail at H
        obtain ⟨c, hcc⟩ : ∃ c, 4 - part.size = c := ⟨_, rfl⟩
        rw [hcc] at H
        have hc : (4 : Int) - (part.size : Int) = (c : Int) := by omega
        have hrep := fun w => rep_calls c (by omega) w
        obtain ⟨rp, hrp, hrz⟩ : ∃ rp : ByteArray, (⟨(Lib.repeatL [48] c).toArray⟩ : ByteArray) = rp ∧ rp.size ≤ 4 := ⟨_, rfl, rep_size c (by omega)⟩
        rw [hrp] at H hrep
        obtain ⟨big, hbig⟩ : ∃ big : ByteArray, wd ++ part ++ rp = big := ⟨_, rfl⟩
        have hbs : big.size ≤ 1000000 := by rw [← hbig, ByteArray.size_append, ByteArray.size_append]; omega
        have z1 : (9223372036854775807 < wd.size + part.size) = False := eq_false (by omega)
        have z2 : (9223372036854775807 < wd.size + part.size + rp.size) = False := eq_false (by omega)
        have z3 : (9223372036854775807 < (wd ++ part).size + rp.size) = False := eq_false (by rw [ByteArray.size_append]; omega)
        rw [hbig] at H
        clear g6
        cases hpu : isOk (Lib.parseUintB 64 big.data.toList) with
        | some u =>
         rw [hpu] at H
         have A5 := Aside0.mk H
         clear H
         go_enter Tryz.func45, Tryz.ntmps45
         go_wp2_with (first
          | ((with_reducible refine gate_callee (f := 66) rfl ?_); refine goesL_ (some 12) rfl rfl Tryz.func66 (by kernel_rfl) rfl #[.string a0, .string ⟨#[45]⟩] rfl (by (try simp only [List.map_toArray, List.map_cons, List.map_nil]); first | done | rfl) ?_; (refine (strings_CutPrefix.calls a0 ⟨#[45]⟩ s1 neg _ A1.out).mono ?_); rintro e w1 ⟨rfl, ⟨nd, rfl⟩⟩; refine ⟨_, rfl, ?_⟩)
          | ((with_reducible refine gate_callee (f := 67) rfl ?_); refine goesL_ (some 17) rfl rfl Tryz.func67 (by kernel_rfl) rfl #[.string s1, .string ⟨#[46]⟩] rfl (by (try simp only [List.map_toArray, List.map_cons, List.map_nil]); first | done | rfl) ?_; (refine (strings_Cut.calls s1 ⟨#[46]⟩ wd part _ _ (hL := ⟨hL.out.below (by repeat (first | (with_reducible first | exact HB.out | apply below_alloc | apply pw_below_drewN | apply below_drew1) | exact HB.out))⟩) A2.out).mono ?_); rintro e w1 ⟨rfl, ⟨nd, rfl⟩⟩; refine ⟨_, rfl, ?_⟩)
          | ((with_reducible refine gate_callee (f := 68) rfl ?_); refine goesL_ (some 22) rfl rfl Tryz.func68 (by kernel_rfl) rfl #[.string wd] rfl (by (try simp only [List.map_toArray, List.map_cons, List.map_nil]); first | done | rfl) ?_; (refine (fixnum_plain.calls (a0.size + 2) wd _ _ A3.out).mono ?_); rintro e w1 ⟨rfl, ⟨nd, rfl⟩⟩; refine ⟨_, rfl, ?_⟩)
          | ((with_reducible refine gate_callee (f := 70) rfl ?_); refine goesL_ (some 59) rfl rfl Tryz.func70 (by kernel_rfl) rfl #[.string ⟨#[48]⟩, .int .i64 (c : Int)] rfl (by (try simp only [List.map_toArray, List.map_cons, List.map_nil]); first | done | rfl) ?_; (refine (hrep _).mono ?_); rintro e w2 ⟨rfl, hb⟩; refine ⟨_, rfl, ?_⟩; have n1_ := Aside0.mk (below_step (by repeat (first | (with_reducible first | exact HB.out | apply below_alloc | apply pw_below_drewN | apply below_drew1) | exact HB.out)) hb); clear HB; have HB := n1_; clear n1_; clear hb)
          | ((with_reducible refine gate_callee (f := 69) rfl ?_); refine goesL_ (some 61) rfl rfl Tryz.func69 (by kernel_rfl) rfl #[.string big, .int .i64 10, .int .i64 64] rfl (by (try simp only [List.map_toArray, List.map_cons, List.map_nil]); first | done | rfl) ?_; (refine (pu_ok big u hbs hpu _).mono ?_); rintro e w3 ⟨rfl, hb⟩; refine ⟨_, rfl, ?_⟩; have n1_ := Aside0.mk (below_step (by repeat (first | (with_reducible first | exact HB.out | apply below_alloc | apply pw_below_drewN | apply below_drew1) | exact HB.out)) hb); clear HB; have HB := n1_; clear n1_; clear hb)
          | ((with_reducible refine gate_callee (f := 71) rfl ?_); refine goesL_ (some 68) rfl rfl Tryz.func71 (by kernel_rfl) rfl #[.int .u64 (u : Int), .bool neg] rfl (by (try simp only [List.map_toArray, List.map_cons, List.map_nil]); first | done | rfl) ?_; (refine (fixnum_signed.calls 3 (u : Int) neg _ _ _ A5.out).mono ?_); rintro e w1 ⟨rfl, ⟨nd, rfl⟩⟩; refine ⟨_, rfl, ?_⟩))
         go_ret2
         exact ⟨by first | rfl | (simp; done) | (simp [*]; done), (by repeat (first | (with_reducible first | exact HB.out | apply below_alloc | apply pw_below_drewN | apply below_drew1) | exact HB.out))⟩
        | none =>
         rw [hpu] at H
         simp only [Option.some.injEq, Prod.mk.injEq] at H
         obtain ⟨rfl, rfl⟩ := H
         go_enter Tryz.func45, Tryz.ntmps45
         go_wp2_with (first
          | ((with_reducible refine gate_callee (f := 66) rfl ?_); refine goesL_ (some 12) rfl rfl Tryz.func66 (by kernel_rfl) rfl #[.string a0, .string ⟨#[45]⟩] rfl (by (try simp only [List.map_toArray, List.map_cons, List.map_nil]); first | done | rfl) ?_; (refine (strings_CutPrefix.calls a0 ⟨#[45]⟩ s1 neg _ A1.out).mono ?_); rintro e w1 ⟨rfl, ⟨nd, rfl⟩⟩; refine ⟨_, rfl, ?_⟩)
          | ((with_reducible refine gate_callee (f := 67) rfl ?_); refine goesL_ (some 17) rfl rfl Tryz.func67 (by kernel_rfl) rfl #[.string s1, .string ⟨#[46]⟩] rfl (by (try simp only [List.map_toArray, List.map_cons, List.map_nil]); first | done | rfl) ?_; (refine (strings_Cut.calls s1 ⟨#[46]⟩ wd part _ _ (hL := ⟨hL.out.below (by repeat (first | (with_reducible first | exact HB.out | apply below_alloc | apply pw_below_drewN | apply below_drew1) | exact HB.out))⟩) A2.out).mono ?_); rintro e w1 ⟨rfl, ⟨nd, rfl⟩⟩; refine ⟨_, rfl, ?_⟩)
          | ((with_reducible refine gate_callee (f := 68) rfl ?_); refine goesL_ (some 22) rfl rfl Tryz.func68 (by kernel_rfl) rfl #[.string wd] rfl (by (try simp only [List.map_toArray, List.map_cons, List.map_nil]); first | done | rfl) ?_; (refine (fixnum_plain.calls (a0.size + 2) wd _ _ A3.out).mono ?_); rintro e w1 ⟨rfl, ⟨nd, rfl⟩⟩; refine ⟨_, rfl, ?_⟩)
          | ((with_reducible refine gate_callee (f := 70) rfl ?_); refine goesL_ (some 59) rfl rfl Tryz.func70 (by kernel_rfl) rfl #[.string ⟨#[48]⟩, .int .i64 (c : Int)] rfl (by (try simp only [List.map_toArray, List.map_cons, List.map_nil]); first | done | rfl) ?_; (refine (hrep _).mono ?_); rintro e w2 ⟨rfl, hb⟩; refine ⟨_, rfl, ?_⟩; have n1_ := Aside0.mk (below_step (by repeat (first | (with_reducible first | exact HB.out | apply below_alloc | apply pw_below_drewN | apply below_drew1) | exact HB.out)) hb); clear HB; have HB := n1_; clear n1_; clear hb)
          | ((with_reducible refine gate_callee (f := 69) rfl ?_); refine goesL_ (some 61) rfl rfl Tryz.func69 (by kernel_rfl) rfl #[.string big, .int .i64 10, .int .i64 64] rfl (by (try simp only [List.map_toArray, List.map_cons, List.map_nil]); first | done | rfl) ?_; (refine (pu_no big hbs hpu _ (⟨hL.out.below (by repeat (first | (with_reducible first | exact HB.out | apply below_alloc | apply pw_below_drewN | apply below_drew1) | exact HB.out))⟩)).mono ?_); rintro e w3 ⟨V, M, rfl, hb⟩; refine ⟨_, rfl, ?_⟩; have n1_ := Aside0.mk (below_step (by repeat (first | (with_reducible first | exact HB.out | apply below_alloc | apply pw_below_drewN | apply below_drew1) | exact HB.out)) hb); clear HB; have HB := n1_; clear n1_; clear hb))
         go_ret2
         exact ⟨by first | rfl | (simp; done) | (simp [*]; done), (by repeat (first | (with_reducible first | exact HB.out | apply below_alloc | apply pw_below_drewN | apply below_drew1) | exact HB.out))⟩
       ·rw [if_neg g6] at H; cases H
 ·rw [if_neg h0] at h; cases h
end Go.Proofs.YtfnbflhoaemmeaaGreatDoor.Ext
end
section
namespace Go.Proofs.YtfnbflhoaemmeaaGreatDoor.Ext
open Go.Shelf Go.RowKit Go.Sort Go.Lib Go.Proofs.YtfnbflhoaemmeaaGreatDoorW.PrintWords Go.Proofs.YtfnbflhoaemmeaaGreatDoorW.PrintLast Go.Proofs.YtfnbflhoaemmeaaGreatDoor.EFxA
set_option linter.unusedVariables false
theorem signed3_eq (a0 : Int) (a1 : Bool) (h0 : 0 ≤ a0) (h1 : a0 < 18446744073709551616) : fixnum_signed.f 3 a0 a1 = some (if a1 then (if a0 ≤ 9223372036854775808 then (-a0, true) else (0, false)) else (if a0 ≤ 9223372036854775807 then (a0, true) else (0, false))) := by
  cases a1
  · unfold fixnum_signed.f
    rw [if_neg (by decide)]
    by_cases c : a0 > 9223372036854775807
    · rw [decide_eq_true c, fixnum_signed.j0, if_pos rfl, fixnum_signed.j1, if_pos rfl, if_neg (by decide), if_neg (by omega)]
    · rw [decide_eq_false c, fixnum_signed.j0, if_neg (by decide), if_neg (by decide), fixnum_signed.j1, if_neg (by decide), if_neg (by decide), if_neg (by decide), if_pos (by omega)]
      have : wrap64 a0 = a0 := by rw [wrap64]; omega
      rw [this]
  · unfold fixnum_signed.f
    rw [if_pos rfl, fixnum_signed.j0, if_neg (by decide), if_pos rfl, if_pos rfl]
    by_cases c : a0 > 9223372036854775808
    · rw [decide_eq_true c, fixnum_signed.j1, if_pos rfl, if_neg (by omega)]
    · rw [decide_eq_false c, fixnum_signed.j1, if_neg (by decide), if_pos rfl, if_pos (by omega)]
      have : wrap64 (IntKind.u64.wrap (-a0)) = -a0 := by rw [wrap_u64, wrap64]; omega
      rw [this]
def add64.f (x y c : Int) : Option (Int × Int) := if (0 ≤ x ∧ x < 18446744073709551616) ∧ (0 ≤ y ∧ y < 18446744073709551616) ∧ 0 ≤ c ∧ c ≤ 1 then some ((x + y + c) % 18446744073709551616, (x + y + c) / 18446744073709551616) else none
theorem run_f25 (x y c : Int) (hx : 0 ≤ x) (hy : 0 ≤ y) (h0 : 0 ≤ c) (h1 : c ≤ 1) (w : World) :
    (callFunc 107 #[.int .u64 x, .int .u64 y, .int .u64 c]).run Tryz.prog w = .ok (.value (.tuple #[.int .u64 ((x + y + c) % 18446744073709551616), .int .u64 ((x + y + c) / 18446744073709551616)])) w := by
  rw [run_callFunc_extern Tryz.func107 (by kernel_rfl) (by kernel_rfl) (by kernel_rfl) (e := add64Entry) (by kernel_rfl), run_add64 x y c hx hy h0 h1]
  rfl
theorem add64_event {ops : Array Oper} {rest : List Oper} {o : Oper} {a : Act} {Q : Exit → Act → World → Prop} {W : World} (N : Option Tmp) (hd : o.dst = N) (hg : o.guard = none) {ars : Array Operand} {ts : Array TypeId}
    (hop : o.op = .call { callee := .value (.func 107), args := ars, argTypes := ts }) (x y c r1 r2 : Int) (hargs : ars.map a.eval = #[.int .u64 x, .int .u64 y, .int .u64 c]) (h : add64.f x y c = some (r1, r2))
    (hk : wpList Tryz.prog ops Q rest (a.put N (.tuple #[.int .u64 r1, .int .u64 r2])) W) : wpList Tryz.prog ops Q (o :: rest) a W := by
  unfold add64.f at h
  by_cases hs : (0 ≤ x ∧ x < 18446744073709551616) ∧ (0 ≤ y ∧ y < 18446744073709551616) ∧ 0 ≤ c ∧ c ≤ 1
  · rw [if_pos hs] at h
    simp only [Option.some.injEq, Prod.mk.injEq] at h
    obtain ⟨rfl, rfl⟩ := h
    subst hd
    refine Kd.event_run hg ?_ hk
    have he := run_f25 x y c hs.1.1 hs.2.1.1 hs.2.2.1 hs.2.2.2 W
    unfold execOp
    simp [hop, resolve, Deferred.ofValue, invoke, Act.eval, hargs, he]
  · rw [if_neg hs] at h; cases h
end Go.Proofs.YtfnbflhoaemmeaaGreatDoor.Ext
end
section
namespace Go.Proofs.YtfnbflhoaemmeaaGreatDoor.EFix
open Go.RowKit Go.Proofs.YtfnbflhoaemmeaaGreatDoor.Ext Go.Proofs.YtfnbflhoaemmeaaGreatDoor.EFxA Go.Proofs.YtfnbflhoaemmeaaGreatDoorW.PrintWords Go.Proofs.YtfnbflhoaemmeaaGreatDoorW.PrintLast Go.Proofs.YtfnbflhoaemmeaaGreatDoorW.PrintMore
attribute [local go_sem] max2_int min2_int max_two min_two max_three min_three max_four min_four   
set_option linter.unusedVariables false
set_option linter.unusedSimpArgs false
def errW : Option Int → Value
  | none => .nilIface
  | some c => .iface 0 (.int .i64 c)
theorem errW_none : errW none = .nilIface := rfl
theorem errW_some (c : Int) : errW (some c) = .iface 0 (.int .i64 c) := rfl
theorem info22 : (Tryz.prog.info? 22).map (fun i => (i.zero, i.size, i.bytes)) = some (some (.int .i64 0), 1, 8) := by kernel_rfl
end Go.Proofs.YtfnbflhoaemmeaaGreatDoor.EFix
end
section
namespace Go.Proofs.YtfnbflhoaemmeaaGreatDoor.EFix
open Go.RowKit Go.Proofs.YtfnbflhoaemmeaaGreatDoor.Ext Go.Proofs.YtfnbflhoaemmeaaGreatDoor.EFxA Go.Proofs.YtfnbflhoaemmeaaGreatDoorW.PrintWords Go.Proofs.YtfnbflhoaemmeaaGreatDoorW.PrintLast Go.Proofs.YtfnbflhoaemmeaaGreatDoorW.PrintMore
attribute [local go_sem] max2_int min2_int max_two min_two max_three min_three max_four min_four   
set_option linter.unusedVariables false
set_option linter.unusedSimpArgs false
def fixnum_Print.f (a0 : Int) : Option (ByteArray) := (fixnum_abs.f a0).bind fun bt101 => ((strconv_FormatUint.f (IntKind.u64.wrap (Int.tdiv bt101.1 10000)) 10).bind fun t103 => (if (Int.tmod bt101.1 10000) > 0 then ((strconv_FormatUint.f (IntKind.u64.wrap (10000 + (Int.tmod bt101.1 10000))) 10).bind fun t104 => (if 1 ≤ (t104.size : Int) then ((strings_TrimRight.f (t104.extract 1 t104.size) (⟨#[48]⟩ : ByteArray)).bind fun t105 => (if 1 + t105.size ≤ 9223372036854775807 then (if t103.size + ((⟨#[46]⟩ : ByteArray) ++ t105).size ≤ 9223372036854775807 then (if bt101.2 = true then (if 1 + (t103 ++ ((⟨#[46]⟩ : ByteArray) ++ t105)).size ≤ 9223372036854775807 then (some ((⟨#[45]⟩ : ByteArray) ++ (t103 ++ ((⟨#[46]⟩ : ByteArray) ++ t105)))) else (none)) else (some (t103 ++ ((⟨#[46]⟩ : ByteArray) ++ t105)))) else (none)) else (none))) else (none))) else (if bt101.2 = true then (if 1 + t103.size ≤ 9223372036854775807 then (some ((⟨#[45]⟩ : ByteArray) ++ t103)) else (none)) else (some t103))))
set_option maxHeartbeats 8000000 in
set_option maxRecDepth 100000 in
theorem fixnum_Print.calls (a0 : Int) (r : ByteArray) (w : World) (hL : Aside0 (Lq w)) (h : fixnum_Print.f a0 = some r) :
  Calls Tryz.prog 47 #[.int .i64 a0] w fun e w' => e = .returned (.string r) ∧ Below w.heap.size w w' := by
 have HB := Aside0.mk (Below.refl w.heap.size w)
 have H : ((fixnum_abs.f a0).bind fun bt101 => ((strconv_FormatUint.f (IntKind.u64.wrap (Int.tdiv bt101.1 10000)) 10).bind fun t103 => (if (Int.tmod bt101.1 10000) > 0 then ((strconv_FormatUint.f (IntKind.u64.wrap (10000 + (Int.tmod bt101.1 10000))) 10).bind fun t104 => (if 1 ≤ (t104.size : Int) then ((strings_TrimRight.f (t104.extract 1 t104.size) (⟨#[48]⟩ : ByteArray)).bind fun t105 => (if 1 + t105.size ≤ 9223372036854775807 then (if t103.size + ((⟨#[46]⟩ : ByteArray) ++ t105).size ≤ 9223372036854775807 then (if bt101.2 = true then (if 1 + (t103 ++ ((⟨#[46]⟩ : ByteArray) ++ t105)).size ≤ 9223372036854775807 then (some ((⟨#[45]⟩ : ByteArray) ++ (t103 ++ ((⟨#[46]⟩ : ByteArray) ++ t105)))) else (none)) else (some (t103 ++ ((⟨#[46]⟩ : ByteArray) ++ t105)))) else (none)) else (none))) else (none))) else (if bt101.2 = true then (if 1 + t103.size ≤ 9223372036854775807 then (some ((⟨#[45]⟩ : ByteArray) ++ t103)) else (none)) else (some t103))))) = some r := h
 clear h
 replace H := Option.bind_eq_some_iff.mp H
 obtain ⟨⟨t101, t102⟩, A20, H⟩ := H
 replace H : ((strconv_FormatUint.f (IntKind.u64.wrap (Int.tdiv t101 10000)) 10).bind fun t103 => (if (Int.tmod t101 10000) > 0 then ((strconv_FormatUint.f (IntKind.u64.wrap (10000 + (Int.tmod t101 10000))) 10).bind fun t104 => (if 1 ≤ (t104.size : Int) then ((strings_TrimRight.f (t104.extract 1 t104.size) (⟨#[48]⟩ : ByteArray)).bind fun t105 => (if 1 + t105.size ≤ 9223372036854775807 then (if t103.size + ((⟨#[46]⟩ : ByteArray) ++ t105).size ≤ 9223372036854775807 then (if t102 = true then (if 1 + (t103 ++ ((⟨#[46]⟩ : ByteArray) ++ t105)).size ≤ 9223372036854775807 then (some ((⟨#[45]⟩ : ByteArray) ++ (t103 ++ ((⟨#[46]⟩ : ByteArray) ++ t105)))) else (none)) else (some (t103 ++ ((⟨#[46]⟩ : ByteArray) ++ t105)))) else (none)) else (none))) else (none))) else (if t102 = true then (if 1 + t103.size ≤ 9223372036854775807 then (some ((⟨#[45]⟩ : ByteArray) ++ t103)) else (none)) else (some t103)))) = some r := H
 have A2 := Aside0.mk A20
 clear A20
 replace H := Option.bind_eq_some_iff.mp H
 obtain ⟨t103, A30, H⟩ := H
 replace H : (if (Int.tmod t101 10000) > 0 then ((strconv_FormatUint.f (IntKind.u64.wrap (10000 + (Int.tmod t101 10000))) 10).bind fun t104 => (if 1 ≤ (t104.size : Int) then ((strings_TrimRight.f (t104.extract 1 t104.size) (⟨#[48]⟩ : ByteArray)).bind fun t105 => (if 1 + t105.size ≤ 9223372036854775807 then (if t103.size + ((⟨#[46]⟩ : ByteArray) ++ t105).size ≤ 9223372036854775807 then (if t102 = true then (if 1 + (t103 ++ ((⟨#[46]⟩ : ByteArray) ++ t105)).size ≤ 9223372036854775807 then (some ((⟨#[45]⟩ : ByteArray) ++ (t103 ++ ((⟨#[46]⟩ : ByteArray) ++ t105)))) else (none)) else (some (t103 ++ ((⟨#[46]⟩ : ByteArray) ++ t105)))) else (none)) else (none))) else (none))) else (if t102 = true then (if 1 + t103.size ≤ 9223372036854775807 then (some ((⟨#[45]⟩ : ByteArray) ++ t103)) else (none)) else (some t103))) = some r := H
 have A3 := Aside0.mk A30
 clear A30
 by_cases c4 : (Int.tmod t101 10000) > 0
 ·rw [if_pos c4] at H
  have c4b0 : decide (0 < (Int.tmod t101 10000)) = true := decide_eq_true c4
  clear c4
  replace H := Option.bind_eq_some_iff.mp H
  obtain ⟨t104, A50, H⟩ := H
  replace H : (if 1 ≤ (t104.size : Int) then ((strings_TrimRight.f (t104.extract 1 t104.size) (⟨#[48]⟩ : ByteArray)).bind fun t105 => (if 1 + t105.size ≤ 9223372036854775807 then (if t103.size + ((⟨#[46]⟩ : ByteArray) ++ t105).size ≤ 9223372036854775807 then (if t102 = true then (if 1 + (t103 ++ ((⟨#[46]⟩ : ByteArray) ++ t105)).size ≤ 9223372036854775807 then (some ((⟨#[45]⟩ : ByteArray) ++ (t103 ++ ((⟨#[46]⟩ : ByteArray) ++ t105)))) else (none)) else (some (t103 ++ ((⟨#[46]⟩ : ByteArray) ++ t105)))) else (none)) else (none))) else (none)) = some r := H
  have A5 := Aside0.mk A50
  clear A50
  by_cases c6 : 1 ≤ (t104.size : Int)
  ·rw [if_pos c6] at H
   have c6b0 := eq_true c6
   have c6b1 : decide (1 ≤ (t104.size : Int)) = true := decide_eq_true c6
   clear c6
   replace H := Option.bind_eq_some_iff.mp H
   obtain ⟨t105, A70, H⟩ := H
   replace H : (if 1 + t105.size ≤ 9223372036854775807 then (if t103.size + ((⟨#[46]⟩ : ByteArray) ++ t105).size ≤ 9223372036854775807 then (if t102 = true then (if 1 + (t103 ++ ((⟨#[46]⟩ : ByteArray) ++ t105)).size ≤ 9223372036854775807 then (some ((⟨#[45]⟩ : ByteArray) ++ (t103 ++ ((⟨#[46]⟩ : ByteArray) ++ t105)))) else (none)) else (some (t103 ++ ((⟨#[46]⟩ : ByteArray) ++ t105)))) else (none)) else (none)) = some r := H
   have A7 := Aside0.mk A70
   clear A70
   by_cases c8 : 1 + t105.size ≤ 9223372036854775807
   ·rw [if_pos c8] at H
    have c8b0 := eq_true c8
    have c8b1 : decide (1 + t105.size ≤ 9223372036854775807) = true := decide_eq_true c8
    try have c8b2 : (9223372036854775807 < 1 + t105.size) = False := eq_false (Nat.not_lt.2 c8)
    by_cases c9 : t103.size + ((⟨#[46]⟩ : ByteArray) ++ t105).size ≤ 9223372036854775807
    ·rw [if_pos c9] at H
     have c9b0 := eq_true c9
     have c9b1 : decide (t103.size + ((⟨#[46]⟩ : ByteArray) ++ t105).size ≤ 9223372036854775807) = true := decide_eq_true c9
     try have c9b2 : (9223372036854775807 < t103.size + ((⟨#[46]⟩ : ByteArray) ++ t105).size) = False := eq_false (Nat.not_lt.2 c9)
     try (have c9b3 := c9b2; simp only [ByteArray.size_append] at c9b3)
     try (have c9b4 := c9b3; simp only [show (⟨#[46]⟩ : ByteArray).size = 1 from rfl] at c9b4)
     by_cases c10 : t102 = true
     ·subst c10
      have H1 : (if 1 + (t103 ++ ((⟨#[46]⟩ : ByteArray) ++ t105)).size ≤ 9223372036854775807 then (some ((⟨#[45]⟩ : ByteArray) ++ (t103 ++ ((⟨#[46]⟩ : ByteArray) ++ t105)))) else (none)) = some r := by rw [if_pos rfl] at H; exact H
      clear H
      have H := H1
      clear H1
      by_cases c11 : 1 + (t103 ++ ((⟨#[46]⟩ : ByteArray) ++ t105)).size ≤ 9223372036854775807
      ·rw [if_pos c11] at H
       have c11b0 := eq_true c11
       have c11b1 : decide (1 + (t103 ++ ((⟨#[46]⟩ : ByteArray) ++ t105)).size ≤ 9223372036854775807) = true := decide_eq_true c11
       try have c11b2 : (9223372036854775807 < 1 + (t103 ++ ((⟨#[46]⟩ : ByteArray) ++ t105)).size) = False := eq_false (Nat.not_lt.2 c11)
       try (have c11b3 := c11b2; simp only [ByteArray.size_append] at c11b3)
       try (have c11b4 := c11b3; simp only [show (⟨#[46]⟩ : ByteArray).size = 1 from rfl] at c11b4)
       obtain rfl := Option.some.inj H
       go_enter Tryz.func47, Tryz.ntmps47
       go_wp2_with (first | ((with_reducible refine gate_callee (f := 76) rfl ?_); refine goesL_ (some 10) rfl rfl Tryz.func76 (by kernel_rfl) rfl #[.int .i64 a0] rfl (by (try simp only [List.map_toArray, List.map_cons, List.map_nil]); first | done | rfl | (simp only [List.length_drop, List.length_take]; rfl)) ?_; (with_reducible refine (fixnum_abs.calls a0 t101 true _ A2.out).mono ?_); rintro e w' ⟨rfl, ⟨nd, rfl⟩⟩; refine ⟨_, rfl, ?_⟩) | ((with_reducible refine gate_callee (f := 77) rfl ?_); refine goesL_ (some 15) rfl rfl Tryz.func77 (by kernel_rfl) rfl #[.int .u64 (IntKind.u64.wrap (Int.tdiv t101 10000)), .int .i64 10] rfl (by (try simp only [List.map_toArray, List.map_cons, List.map_nil]); first | done | rfl | (simp only [List.length_drop, List.length_take]; rfl)) ?_; (with_reducible refine (strconv_FormatUint.calls (hL := ⟨by first | exact hL.out | (refine hL.out.drawn ?_; (repeat (first | exact Drawn0.refl _ | apply Drawn0.step)); done) | (refine hL.out.below ?_; (repeat (first | (with_reducible first | exact HB.out | apply below_alloc | apply pw_below_drewN | apply below_drew1) | exact HB.out)); done)⟩) (IntKind.u64.wrap (Int.tdiv t101 10000)) 10 t103 _ A3.out).mono ?_); rintro e w12 ⟨rfl, hb⟩; refine ⟨_, rfl, ?_⟩; have n0_ := Aside0.mk (below_step (by repeat (first | (with_reducible first | exact HB.out | apply below_alloc | apply pw_below_drewN | apply below_drew1) | exact HB.out)) hb); clear HB; have HB := n0_; clear n0_; (try clear hb); (try clear hb2); (try clear hk); (try clear hi)) | ((with_reducible refine gate_callee (f := 77) rfl ?_); refine goesL_ (some 22) rfl rfl Tryz.func77 (by kernel_rfl) rfl #[.int .u64 (IntKind.u64.wrap (10000 + (Int.tmod t101 10000))), .int .i64 10] rfl (by (try simp only [List.map_toArray, List.map_cons, List.map_nil]); first | done | rfl | (simp only [List.length_drop, List.length_take]; rfl)) ?_; (with_reducible refine (strconv_FormatUint.calls (hL := ⟨by first | exact hL.out | (refine hL.out.drawn ?_; (repeat (first | exact Drawn0.refl _ | apply Drawn0.step)); done) | (refine hL.out.below ?_; (repeat (first | (with_reducible first | exact HB.out | apply below_alloc | apply pw_below_drewN | apply below_drew1) | exact HB.out)); done)⟩) (IntKind.u64.wrap (10000 + (Int.tmod t101 10000))) 10 t104 _ A5.out).mono ?_); rintro e w13 ⟨rfl, hb⟩; refine ⟨_, rfl, ?_⟩; have n0_ := Aside0.mk (below_step (by repeat (first | (with_reducible first | exact HB.out | apply below_alloc | apply pw_below_drewN | apply below_drew1) | exact HB.out)) hb); clear HB; have HB := n0_; clear n0_; (try clear hb); (try clear hb2); (try clear hk); (try clear hi)) | ((with_reducible refine gate_callee (f := 78) rfl ?_); refine goesL_ (some 26) rfl rfl Tryz.func78 (by kernel_rfl) rfl #[.string (t104.extract 1 t104.size), .string (⟨#[48]⟩ : ByteArray)] rfl (by (try simp only [List.map_toArray, List.map_cons, List.map_nil]); first | done | rfl | (simp only [List.length_drop, List.length_take]; rfl)) ?_; (with_reducible refine (strings_TrimRight.calls (t104.extract 1 t104.size) (⟨#[48]⟩ : ByteArray) t105 _ A7.out).mono ?_); rintro e w' ⟨rfl, ⟨nd, rfl⟩⟩; refine ⟨_, rfl, ?_⟩))
       go_ret
       exact ⟨by first | rfl | (simp [errW_none, errW_some] <;> rfl) | (simp [*, errW_none, errW_some] <;> rfl) | (simp [*, errW_none, errW_some] <;> (generalize ByteArray.toList _ = l_; cases l_ <;> rfl)), by repeat (first | (with_reducible first | exact HB.out | apply below_alloc | apply pw_below_drewN | apply below_drew1) | exact HB.out)⟩
      ·rw [if_neg c11] at H
       exact absurd H (by simp)
     ·replace c10 := Bool.eq_false_iff.mpr c10
      subst c10
      have H1 : (some (t103 ++ ((⟨#[46]⟩ : ByteArray) ++ t105))) = some r := by rw [if_neg (show ¬ (false = true) by decide)] at H; exact H
      clear H
      have H := H1
      clear H1
      obtain rfl := Option.some.inj H
      go_enter Tryz.func47, Tryz.ntmps47
      go_wp2_with (first | ((with_reducible refine gate_callee (f := 76) rfl ?_); refine goesL_ (some 10) rfl rfl Tryz.func76 (by kernel_rfl) rfl #[.int .i64 a0] rfl (by (try simp only [List.map_toArray, List.map_cons, List.map_nil]); first | done | rfl | (simp only [List.length_drop, List.length_take]; rfl)) ?_; (with_reducible refine (fixnum_abs.calls a0 t101 false _ A2.out).mono ?_); rintro e w' ⟨rfl, ⟨nd, rfl⟩⟩; refine ⟨_, rfl, ?_⟩) | ((with_reducible refine gate_callee (f := 77) rfl ?_); refine goesL_ (some 15) rfl rfl Tryz.func77 (by kernel_rfl) rfl #[.int .u64 (IntKind.u64.wrap (Int.tdiv t101 10000)), .int .i64 10] rfl (by (try simp only [List.map_toArray, List.map_cons, List.map_nil]); first | done | rfl | (simp only [List.length_drop, List.length_take]; rfl)) ?_; (with_reducible refine (strconv_FormatUint.calls (hL := ⟨by first | exact hL.out | (refine hL.out.drawn ?_; (repeat (first | exact Drawn0.refl _ | apply Drawn0.step)); done) | (refine hL.out.below ?_; (repeat (first | (with_reducible first | exact HB.out | apply below_alloc | apply pw_below_drewN | apply below_drew1) | exact HB.out)); done)⟩) (IntKind.u64.wrap (Int.tdiv t101 10000)) 10 t103 _ A3.out).mono ?_); rintro e w14 ⟨rfl, hb⟩; refine ⟨_, rfl, ?_⟩; have n0_ := Aside0.mk (below_step (by repeat (first | (with_reducible first | exact HB.out | apply below_alloc | apply pw_below_drewN | apply below_drew1) | exact HB.out)) hb); clear HB; have HB := n0_; clear n0_; (try clear hb); (try clear hb2); (try clear hk); (try clear hi)) | ((with_reducible refine gate_callee (f := 77) rfl ?_); refine goesL_ (some 22) rfl rfl Tryz.func77 (by kernel_rfl) rfl #[.int .u64 (IntKind.u64.wrap (10000 + (Int.tmod t101 10000))), .int .i64 10] rfl (by (try simp only [List.map_toArray, List.map_cons, List.map_nil]); first | done | rfl | (simp only [List.length_drop, List.length_take]; rfl)) ?_; (with_reducible refine (strconv_FormatUint.calls (hL := ⟨by first | exact hL.out | (refine hL.out.drawn ?_; (repeat (first | exact Drawn0.refl _ | apply Drawn0.step)); done) | (refine hL.out.below ?_; (repeat (first | (with_reducible first | exact HB.out | apply below_alloc | apply pw_below_drewN | apply below_drew1) | exact HB.out)); done)⟩) (IntKind.u64.wrap (10000 + (Int.tmod t101 10000))) 10 t104 _ A5.out).mono ?_); rintro e w15 ⟨rfl, hb⟩; refine ⟨_, rfl, ?_⟩; have n0_ := Aside0.mk (below_step (by repeat (first | (with_reducible first | exact HB.out | apply below_alloc | apply pw_below_drewN | apply below_drew1) | exact HB.out)) hb); clear HB; have HB := n0_; clear n0_; (try clear hb); (try clear hb2); (try clear hk); (try clear hi)) | ((with_reducible refine gate_callee (f := 78) rfl ?_); refine goesL_ (some 26) rfl rfl Tryz.func78 (by kernel_rfl) rfl #[.string (t104.extract 1 t104.size), .string (⟨#[48]⟩ : ByteArray)] rfl (by (try simp only [List.map_toArray, List.map_cons, List.map_nil]); first | done | rfl | (simp only [List.length_drop, List.length_take]; rfl)) ?_; (with_reducible refine (strings_TrimRight.calls (t104.extract 1 t104.size) (⟨#[48]⟩ : ByteArray) t105 _ A7.out).mono ?_); rintro e w' ⟨rfl, ⟨nd, rfl⟩⟩; refine ⟨_, rfl, ?_⟩))
      go_ret
      exact ⟨by first | rfl | (simp [errW_none, errW_some] <;> rfl) | (simp [*, errW_none, errW_some] <;> rfl) | (simp [*, errW_none, errW_some] <;> (generalize ByteArray.toList _ = l_; cases l_ <;> rfl)), by repeat (first | (with_reducible first | exact HB.out | apply below_alloc | apply pw_below_drewN | apply below_drew1) | exact HB.out)⟩
    ·rw [if_neg c9] at H
     exact absurd H (by simp)
   ·rw [if_neg c8] at H
    exact absurd H (by simp)
  ·rw [if_neg c6] at H
   exact absurd H (by simp)
 ·rw [if_neg c4] at H
  have c4b0 : decide (0 < (Int.tmod t101 10000)) = false := decide_eq_false c4
  clear c4
  by_cases c16 : t102 = true
  ·subst c16
   have H1 : (if 1 + t103.size ≤ 9223372036854775807 then (some ((⟨#[45]⟩ : ByteArray) ++ t103)) else (none)) = some r := by rw [if_pos rfl] at H; exact H
   clear H
   have H := H1
   clear H1
   by_cases c17 : 1 + t103.size ≤ 9223372036854775807
   ·rw [if_pos c17] at H
    have c17b0 := eq_true c17
    have c17b1 : decide (1 + t103.size ≤ 9223372036854775807) = true := decide_eq_true c17
    try have c17b2 : (9223372036854775807 < 1 + t103.size) = False := eq_false (Nat.not_lt.2 c17)
    obtain rfl := Option.some.inj H
    go_enter Tryz.func47, Tryz.ntmps47
    go_wp2_with (first | ((with_reducible refine gate_callee (f := 76) rfl ?_); refine goesL_ (some 10) rfl rfl Tryz.func76 (by kernel_rfl) rfl #[.int .i64 a0] rfl (by (try simp only [List.map_toArray, List.map_cons, List.map_nil]); first | done | rfl | (simp only [List.length_drop, List.length_take]; rfl)) ?_; (with_reducible refine (fixnum_abs.calls a0 t101 true _ A2.out).mono ?_); rintro e w' ⟨rfl, ⟨nd, rfl⟩⟩; refine ⟨_, rfl, ?_⟩) | ((with_reducible refine gate_callee (f := 77) rfl ?_); refine goesL_ (some 15) rfl rfl Tryz.func77 (by kernel_rfl) rfl #[.int .u64 (IntKind.u64.wrap (Int.tdiv t101 10000)), .int .i64 10] rfl (by (try simp only [List.map_toArray, List.map_cons, List.map_nil]); first | done | rfl | (simp only [List.length_drop, List.length_take]; rfl)) ?_; (with_reducible refine (strconv_FormatUint.calls (hL := ⟨by first | exact hL.out | (refine hL.out.drawn ?_; (repeat (first | exact Drawn0.refl _ | apply Drawn0.step)); done) | (refine hL.out.below ?_; (repeat (first | (with_reducible first | exact HB.out | apply below_alloc | apply pw_below_drewN | apply below_drew1) | exact HB.out)); done)⟩) (IntKind.u64.wrap (Int.tdiv t101 10000)) 10 t103 _ A3.out).mono ?_); rintro e w18 ⟨rfl, hb⟩; refine ⟨_, rfl, ?_⟩; have n0_ := Aside0.mk (below_step (by repeat (first | (with_reducible first | exact HB.out | apply below_alloc | apply pw_below_drewN | apply below_drew1) | exact HB.out)) hb); clear HB; have HB := n0_; clear n0_; (try clear hb); (try clear hb2); (try clear hk); (try clear hi)))
    go_ret
    exact ⟨by first | rfl | (simp [errW_none, errW_some] <;> rfl) | (simp [*, errW_none, errW_some] <;> rfl) | (simp [*, errW_none, errW_some] <;> (generalize ByteArray.toList _ = l_; cases l_ <;> rfl)), by repeat (first | (with_reducible first | exact HB.out | apply below_alloc | apply pw_below_drewN | apply below_drew1) | exact HB.out)⟩
   ·rw [if_neg c17] at H
    exact absurd H (by simp)
  ·replace c16 := Bool.eq_false_iff.mpr c16
   subst c16
   have H1 : (some t103) = some r := by rw [if_neg (show ¬ (false = true) by decide)] at H; exact H
   clear H
   have H := H1
   clear H1
   obtain rfl := Option.some.inj H
   go_enter Tryz.func47, Tryz.ntmps47
   go_wp2_with (first | ((with_reducible refine gate_callee (f := 76) rfl ?_); refine goesL_ (some 10) rfl rfl Tryz.func76 (by kernel_rfl) rfl #[.int .i64 a0] rfl (by (try simp only [List.map_toArray, List.map_cons, List.map_nil]); first | done | rfl | (simp only [List.length_drop, List.length_take]; rfl)) ?_; (with_reducible refine (fixnum_abs.calls a0 t101 false _ A2.out).mono ?_); rintro e w' ⟨rfl, ⟨nd, rfl⟩⟩; refine ⟨_, rfl, ?_⟩) | ((with_reducible refine gate_callee (f := 77) rfl ?_); refine goesL_ (some 15) rfl rfl Tryz.func77 (by kernel_rfl) rfl #[.int .u64 (IntKind.u64.wrap (Int.tdiv t101 10000)), .int .i64 10] rfl (by (try simp only [List.map_toArray, List.map_cons, List.map_nil]); first | done | rfl | (simp only [List.length_drop, List.length_take]; rfl)) ?_; (with_reducible refine (strconv_FormatUint.calls (hL := ⟨by first | exact hL.out | (refine hL.out.drawn ?_; (repeat (first | exact Drawn0.refl _ | apply Drawn0.step)); done) | (refine hL.out.below ?_; (repeat (first | (with_reducible first | exact HB.out | apply below_alloc | apply pw_below_drewN | apply below_drew1) | exact HB.out)); done)⟩) (IntKind.u64.wrap (Int.tdiv t101 10000)) 10 t103 _ A3.out).mono ?_); rintro e w19 ⟨rfl, hb⟩; refine ⟨_, rfl, ?_⟩; have n0_ := Aside0.mk (below_step (by repeat (first | (with_reducible first | exact HB.out | apply below_alloc | apply pw_below_drewN | apply below_drew1) | exact HB.out)) hb); clear HB; have HB := n0_; clear n0_; (try clear hb); (try clear hb2); (try clear hk); (try clear hi)))
   go_ret
   exact ⟨by first | rfl | (simp [errW_none, errW_some] <;> rfl) | (simp [*, errW_none, errW_some] <;> rfl) | (simp [*, errW_none, errW_some] <;> (generalize ByteArray.toList _ = l_; cases l_ <;> rfl)), by repeat (first | (with_reducible first | exact HB.out | apply below_alloc | apply pw_below_drewN | apply below_drew1) | exact HB.out)⟩
def fixnum_Int.f (a0 : Int) : Option (Int × Bool) := if a0 > 922337203685477 then (some (0, false)) else (if a0 < (-922337203685477) then (some (0, false)) else (some (wrap64 (a0 * 10000), true)))
set_option maxHeartbeats 8000000 in
set_option maxRecDepth 100000 in
theorem fixnum_Int.calls (a0 : Int) (r1 : Int) (r2 : Bool) (w : World) (h : fixnum_Int.f a0 = some (r1, r2)) :
  Calls Tryz.prog 44 #[.int .i64 a0] w fun e w' => e = .returned (.tuple #[.int .i64 r1, .bool r2]) ∧ Drawn0 w w' := by
 have H : (if a0 > 922337203685477 then (some (0, false)) else (if a0 < (-922337203685477) then (some (0, false)) else (some (wrap64 (a0 * 10000), true)))) = some (r1, r2) := h
 clear h
 by_cases c2 : a0 > 922337203685477
 ·rw [if_pos c2] at H
  have c2b0 : decide (922337203685477 < a0) = true := decide_eq_true c2
  clear c2
  simp only [Option.some.injEq, Prod.mk.injEq] at H
  obtain ⟨rfl, rfl⟩ := H
  go_enter Tryz.func44, Tryz.ntmps44
  go_wp2
  go_ret2
  exact ⟨by first | rfl | (simp; done) | (simp [*]; done) | (simp; generalize ByteArray.toList _ = l_; cases l_ <;> rfl), by repeat (first | exact Drawn0.refl _ | apply Drawn0.step)⟩
 ·rw [if_neg c2] at H
  have c2b0 : decide (922337203685477 < a0) = false := decide_eq_false c2
  clear c2
  by_cases c3 : a0 < (-922337203685477)
  ·rw [if_pos c3] at H
   have c3b0 : decide (a0 < (-922337203685477)) = true := decide_eq_true c3
   clear c3
   simp only [Option.some.injEq, Prod.mk.injEq] at H
   obtain ⟨rfl, rfl⟩ := H
   go_enter Tryz.func44, Tryz.ntmps44
   go_wp2
   go_ret2
   exact ⟨by first | rfl | (simp; done) | (simp [*]; done) | (simp; generalize ByteArray.toList _ = l_; cases l_ <;> rfl), by repeat (first | exact Drawn0.refl _ | apply Drawn0.step)⟩
  ·rw [if_neg c3] at H
   have c3b0 : decide (a0 < (-922337203685477)) = false := decide_eq_false c3
   clear c3
   simp only [Option.some.injEq, Prod.mk.injEq] at H
   obtain ⟨rfl, rfl⟩ := H
   go_enter Tryz.func44, Tryz.ntmps44
   go_wp2
   go_ret2
   exact ⟨by first | rfl | (simp; done) | (simp [*]; done) | (simp; generalize ByteArray.toList _ = l_; cases l_ <;> rfl), by repeat (first | exact Drawn0.refl _ | apply Drawn0.step)⟩
end Go.Proofs.YtfnbflhoaemmeaaGreatDoor.EFix
end
section
namespace Go.Proofs.YtfnbflhoaemmeaaGreatDoor.EFix
open Go.RowKit Go.Lib Go.Proofs.YtfnbflhoaemmeaaGreatDoorW.PrintWords Go.Proofs.YtfnbflhoaemmeaaGreatDoorW.PrintLast Go.Proofs.YtfnbflhoaemmeaaGreatDoor.Ext Go.Proofs.YtfnbflhoaemmeaaGreatDoor.EFxA
theorem wr (x : Int) (h : -9223372036854775808 ≤ x) (h' : x ≤ 9223372036854775807) : wrap64 x = x := by unfold wrap64; omega
def by_ (s : ByteArray) : List UInt8 := s.data.toList
theorem by_len (s : ByteArray) : (by_ s).length = s.size := (Lib.size_eq s).symm
theorem bt_by (s : ByteArray) (j : Nat) (h : j < (by_ s).length) : bt s (j : Int) = (((by_ s)[j]).toNat : Int) := by
  have h' : j < s.size := by rw [← by_len]; exact h
  unfold bt
  rw [dif_pos (by simpa using h')]
  rfl
theorem by_take (s : ByteArray) (j : Nat) : by_ (s.extract 0 j) = (by_ s).take j := by
  unfold by_; rw [Lib.extract_data]; simp
theorem by_drop (s : ByteArray) (j : Nat) : by_ (s.extract j s.size) = (by_ s).drop j := Lib.extract_to_end s j
theorem by_mk (l : List UInt8) : by_ ⟨l.toArray⟩ = l := rfl
theorem by_inj {s t : ByteArray} (h : by_ s = by_ t) : s = t := by
  apply ByteArray.ext
  unfold by_ at h
  exact Array.toList_inj.1 h
def cutAt (c : UInt8) : List UInt8 → Option (List UInt8 × List UInt8)
  | [] => none
  | x :: r => if x = c then some ([], r) else match cutAt c r with | none => none | some p => some (x :: p.1, p.2)
def dropHead (c : UInt8) : List UInt8 → Option (List UInt8)
  | [] => none
  | x :: r => if x = c then some r else none
theorem dropHead_len (c : UInt8) (l r : List UInt8) (h : dropHead c l = some r) : l = c :: r := by
  cases l with
  | nil => cases h
  | cons a s =>
    by_cases e : a = c
    · have : dropHead c (a :: s) = some s := if_pos e
      rw [this] at h
      injection h with h
      rw [e, h]
    · have : dropHead c (a :: s) = none := if_neg e
      rw [this] at h
      cases h
theorem index_cut (c : UInt8) (l : List UInt8) : (cutAt c l = none ∧ Lib.index l [c] = -1) ∨ ∃ p, cutAt c l = some p ∧ Lib.index l [c] = p.1.length ∧ l = p.1 ++ c :: p.2 := by
  induction l with
  | nil => left; exact ⟨rfl, rfl⟩
  | cons x r ih =>
    have hp : [c].isPrefixOf (x :: r) = (c == x) := by simp [List.isPrefixOf]
    unfold cutAt Lib.index
    rw [hp]
    by_cases h : x = c
    · right
      subst h
      exact ⟨([], r), by rw [if_pos rfl], by simp, rfl⟩
    · have hcx : (c == x) = false := by rw [beq_eq_false_iff_ne]; exact fun e => h e.symm
      rw [if_neg h, hcx, if_neg (by simp)]
      rcases ih with ⟨h1, h2⟩ | ⟨p, h1, h2, h3⟩
      · left
        rw [h1, h2]
        exact ⟨rfl, rfl⟩
      · right
        rw [h1, h2]
        refine ⟨(x :: p.1, p.2), rfl, ?_, by rw [List.cons_append, ← h3]⟩
        rw [if_neg (by simp)]
        simp
theorem cut_eq (c : UInt8) (l : List UInt8) : Lib.cut l [c] = match cutAt c l with | none => (l, [], false) | some p => (p.1, p.2, true) := by
  unfold Lib.cut
  rcases index_cut c l with ⟨h1, h2⟩ | ⟨p, h1, h2, h3⟩
  · rw [h1, h2, if_neg (by omega)]
  · rw [h1, h2, if_pos (by omega), Int.toNat_natCast]
    show (List.take p.1.length l, List.drop (p.1.length + 1) l, true) = (p.1, p.2, true)
    rw [h3]
    simp
theorem cut_f (x : ByteArray) (c : UInt8) (hx : x.size ≤ 1000000) : strings_Cut.f x ⟨#[c]⟩ = some (match cutAt c (by_ x) with | none => (x, ⟨#[]⟩, false) | some p => (⟨p.1.toArray⟩, ⟨p.2.toArray⟩, true)) := by
  unfold strings_Cut.f
  rw [if_pos (by omega)]
  have e : Lib.cut x.data.toList (⟨#[c]⟩ : ByteArray).data.toList = _ := cut_eq c (by_ x)
  rw [e]
  cases cutAt c (by_ x) with
  | none => congr 1
  | some p => rfl
theorem cutPrefix_f (x : ByteArray) (c : UInt8) : strings_CutPrefix.f x ⟨#[c]⟩ = some (match dropHead c (by_ x) with | none => (x, false) | some r => (⟨r.toArray⟩, true)) := by
  have hl := by_len x
  unfold strings_CutPrefix.f stringslite_CutPrefix.f stringslite_HasPrefix.f
  have h1 : ((⟨#[c]⟩ : ByteArray).size : Int) = 1 := rfl
  rw [h1]
  by_cases h : (x.size : Int) ≥ 1
  · rw [if_pos h, if_pos (by omega), if_pos h, Option.bind_some]
    have ht : (x.extract 0 (1 : Int).toNat).toList = (by_ x).take 1 := by
      rw [ByteArray.toList_eq]; exact by_take x 1
    have hs : (⟨#[c]⟩ : ByteArray).toList = [c] := by rw [ByteArray.toList_eq]
    rw [ht, hs]
    have hd := by_drop x 1
    cases e : by_ x with
    | nil => rw [e] at hl; simp at hl; omega
    | cons a r =>
      rw [e] at hd
      by_cases hc : a = c
      · subst hc
        have e9 : dropHead a (a :: r) = some r := if_pos rfl
        rw [e9]
        have : (List.take 1 (a :: r) == [a]) = true := by simp
        rw [this, if_pos rfl, if_pos (by omega), if_pos h, Option.bind_some]
        congr 1
        have : x.extract (1 : Int).toNat x.size = ⟨r.toArray⟩ := by_inj hd
        rw [this]
      · have e9 : dropHead c (a :: r) = none := if_neg hc
        rw [e9]
        have : (List.take 1 (a :: r) == [c]) = false := by simp [hc]
        rw [this, if_neg (by simp), Option.bind_some]
  · rw [if_neg h, Option.bind_some, if_neg (by simp), Option.bind_some]
    have : by_ x = [] := List.eq_nil_of_length_eq_zero (by omega)
    rw [this]; rfl
theorem cutAt_len' (c : UInt8) (l : List UInt8) (p : List UInt8 × List UInt8) (h : cutAt c l = some p) : l = p.1 ++ c :: p.2 := by
  rcases index_cut c l with ⟨h1, _⟩ | ⟨q, h1, _, h2⟩
  · rw [h1] at h; cases h
  · rw [h1] at h; rw [← Option.some.inj h]; exact h2
theorem mk_size (l : List UInt8) : (⟨l.toArray⟩ : ByteArray).size = l.length := by rw [← by_len]; rfl
theorem to_by (x : ByteArray) : x.toList = by_ x := by rw [ByteArray.toList_eq]; rfl
def dig (c : UInt8) : Bool := decide (48 ≤ c.toNat) && decide (c.toNat ≤ 57)
def plainS (l : List UInt8) : Bool := l.all dig && !l.isEmpty
theorem plain_l (x : ByteArray) (hx : x.size ≤ 1000000) (d : Nat) : ∀ k j : Nat, j + d = x.size → d + 1 ≤ k → fixnum_plain.l0 k x (x.size : Int) (j : Int) = some (((by_ x).drop j).all dig && !(by_ x).isEmpty) := by
  have hl := by_len x
  induction d with
  | zero =>
    intro k j hj hk
    obtain ⟨k, rfl⟩ : ∃ m, k = m + 1 := ⟨k - 1, by omega⟩
    rw [fixnum_plain.l0, if_neg (by omega), List.drop_of_length_le (by omega), to_by]
    simp only [List.all_nil, Bool.true_and]
    cases by_ x <;> rfl
  | succ d ih =>
    intro k j hj hk
    obtain ⟨k, rfl⟩ : ∃ m, k = m + 1 := ⟨k - 1, by omega⟩
    have hjl : j < (by_ x).length := by omega
    rw [fixnum_plain.l0, if_pos (by omega), if_pos (by omega), if_pos (by omega), bt_by x j hjl, wr _ (by omega) (by omega), List.drop_eq_getElem_cons hjl]
    simp only [List.all_cons, dig]
    generalize (by_ x)[j] = c
    by_cases c1 : (c.toNat : Int) < 48
    · rw [if_pos c1, decide_eq_false (show ¬ 48 ≤ c.toNat by omega)]
      simp
    · rw [if_neg c1, decide_eq_true (show 48 ≤ c.toNat by omega)]
      by_cases c2 : (c.toNat : Int) > 57
      · rw [if_pos c2, decide_eq_false (show ¬ c.toNat ≤ 57 by omega)]
        simp
      · rw [if_neg c2, decide_eq_true (show c.toNat ≤ 57 by omega)]
        have := ih k (j + 1) (by omega) (by omega)
        rw [show (((j + 1 : Nat) : Int)) = (j : Int) + 1 by omega] at this
        rw [this]
        simp
theorem plain_f (x : ByteArray) (hx : x.size ≤ 1000000) (k : Nat) (hk : x.size + 1 ≤ k) : fixnum_plain.f k x = some (plainS (by_ x)) := by
  unfold fixnum_plain.f plainS
  have := plain_l x hx x.size k 0 (by omega) (by omega)
  simpa using this
def sgnS (u : Nat) (neg : Bool) : Int × Bool := if neg then (if u ≤ 9223372036854775808 then (-(u : Int), true) else (0, false)) else (if u ≤ 9223372036854775807 then ((u : Int), true) else (0, false))
theorem signed_f (u : Nat) (neg : Bool) (h : u < 18446744073709551616) : fixnum_signed.f 3 (u : Int) neg = some (sgnS u neg) := by
  rw [signed3_eq _ _ (by omega) (by omega)]
  unfold sgnS
  cases neg
  · simp only [Bool.false_eq_true, if_false]
    by_cases c : u ≤ 9223372036854775807
    · rw [if_pos (by omega), if_pos c]
    · rw [if_neg (by omega), if_neg c]
  · simp only [if_true]
    by_cases c : u ≤ 9223372036854775808
    · rw [if_pos (by omega), if_pos c]
    · rw [if_neg (by omega), if_neg c]
def tailS (w part : List UInt8) (neg : Bool) : Int × Bool :=
  match isOk (Lib.parseUintB 64 (w ++ part ++ Lib.repeatL [48] (4 - part.length))) with
  | some u => sgnS u neg
  | none => (0, false)
def unsS (l : List UInt8) (neg : Bool) : Int × Bool :=
  match cutAt 46 l with
  | none => if plainS l = false then (0, false) else if 1 < l.length ∧ l.head? = some 48 then (0, false) else if 16 < l.length then (0, false) else tailS l [] neg
  | some (w, part) => if plainS w = false then (0, false) else if 1 < w.length ∧ w.head? = some 48 then (0, false) else if 16 < w.length then (0, false)
    else if plainS part = false then (0, false) else if 4 < part.length then (0, false) else tailS w part neg
def parseS (l : List UInt8) : Int × Bool := match dropHead 45 l with | none => unsS l false | some r => unsS r true
theorem parseUintM_le (M : Nat) (l : List UInt8) : ∀ (acc u : Nat), acc ≤ M → Lib.parseUintM M acc l = .ok u → u ≤ M := Ext.parseUintM_le M l
theorem tail_f (w part : ByteArray) (neg : Bool) : parseTail w part neg = some (tailS (by_ w) (by_ part) neg) := by
  unfold parseTail tailS
  have e : (w ++ part ++ ⟨(Lib.repeatL [48] (4 - part.size)).toArray⟩ : ByteArray).data.toList = by_ w ++ by_ part ++ Lib.repeatL [48] (4 - (by_ part).length) := by
    rw [by_len]
    simp [by_]
  rw [e]
  generalize by_ w ++ by_ part ++ Lib.repeatL [48] (4 - (by_ part).length) = l
  cases h : isOk (Lib.parseUintB 64 l) with
  | none => rfl
  | some u =>
    have hu : Lib.parseUintB 64 l = .ok u := by
      revert h
      cases Lib.parseUintB 64 l with
      | ok v => intro h; rw [show v = u from Option.some.inj h]
      | _ => intro h; cases h
    have := Ext.parseUintB_le 64 l u hu
    exact signed_f u neg (by omega)
theorem head_by (x : ByteArray) (h : 1 < x.size) : (bt x 0 = 48) ↔ (by_ x).head? = some 48 := by
  have hl := by_len x
  have h0 : 0 < (by_ x).length := by omega
  have := bt_by x 0 h0
  rw [show ((0 : Nat) : Int) = 0 from rfl] at this
  rw [this]
  rw [List.head?_eq_getElem?, List.getElem?_eq_getElem h0, Option.some.injEq]
  generalize (by_ x)[0] = c
  constructor
  · intro h'; exact UInt8.toNat_inj.mp (by rw [show (48 : UInt8).toNat = 48 from rfl]; omega)
  · rintro rfl; rfl
theorem uns_f (x : ByteArray) (hx : x.size ≤ 100000) (k : Nat) (hk : x.size + 1 ≤ k) (neg : Bool) :
    ((strings_Cut.f x ⟨#[46]⟩).bind fun d => (fixnum_plain.f k d.1).bind fun p =>
      if p = false then some (0, false) else if 1 < d.1.size ∧ bt d.1 0 = 48 then some (0, false) else if 16 < d.1.size then some (0, false)
      else if d.2.2 = true then (fixnum_plain.f k d.2.1).bind fun p2 => if p2 = false then some (0, false) else if 4 < d.2.1.size then some (0, false) else parseTail d.1 d.2.1 neg
      else if d.2.1.size = 0 then parseTail d.1 d.2.1 neg else none) = some (unsS (by_ x) neg) := by
  rw [cut_f x 46 (by omega)]
  have hl := by_len x
  unfold unsS
  cases e : cutAt 46 (by_ x) with
  | none =>
    simp only [Option.bind_some]
    rw [plain_f x (by omega) k hk, Option.bind_some]
    have e0 : (⟨#[]⟩ : ByteArray).size = 0 := rfl
    by_cases c1 : plainS (by_ x) = false
    · rw [if_pos c1, if_pos c1]
    · rw [if_neg c1, if_neg c1]
      by_cases c2 : 1 < x.size ∧ bt x 0 = 48
      · rw [if_pos c2, if_pos ⟨by omega, (head_by x c2.1).mp c2.2⟩]
      · rw [if_neg c2, if_neg (show ¬ (1 < (by_ x).length ∧ (by_ x).head? = some 48) from fun h => c2 ⟨by omega, (head_by x (by omega)).mpr h.2⟩)]
        by_cases c3 : 16 < x.size
        · rw [if_pos c3, if_pos (by omega)]
        · rw [if_neg c3, if_neg (show ¬ (false = true) by decide), if_pos e0, if_neg (show ¬ 16 < (by_ x).length by omega), tail_f]
          rfl
  | some p =>
    obtain ⟨w, part⟩ := p
    have hc := cutAt_len' 46 _ _ e
    have hw : (⟨w.toArray⟩ : ByteArray).size = w.length := mk_size w
    have hp : (⟨part.toArray⟩ : ByteArray).size = part.length := mk_size part
    have hs : w.length + part.length + 1 = x.size := by rw [← hl, hc]; simp; omega
    simp only [Option.bind_some]
    rw [plain_f _ (by omega) k (by omega), Option.bind_some, by_mk, hw]
    by_cases c1 : plainS w = false
    · rw [if_pos c1, if_pos c1]
    · rw [if_neg c1, if_neg c1]
      have hb : 1 < w.length → ((bt ⟨w.toArray⟩ 0 = 48) ↔ w.head? = some 48) := fun h => head_by ⟨w.toArray⟩ (by omega)
      by_cases c2 : 1 < w.length ∧ bt ⟨w.toArray⟩ 0 = 48
      · rw [if_pos c2, if_pos ⟨c2.1, (hb c2.1).mp c2.2⟩]
      · rw [if_neg c2, if_neg (show ¬ (1 < w.length ∧ w.head? = some 48) from fun h => c2 ⟨h.1, (hb h.1).mpr h.2⟩)]
        by_cases c3 : 16 < w.length
        · rw [if_pos c3, if_pos c3]
        · rw [if_neg c3, if_neg c3, if_pos trivial, plain_f _ (by omega) k (by omega), Option.bind_some, by_mk, hp]
          by_cases c4 : plainS part = false
          · rw [if_pos c4, if_pos c4]
          · rw [if_neg c4, if_neg c4]
            by_cases c5 : 4 < part.length
            · rw [if_pos c5, if_pos c5]
            · rw [if_neg c5, if_neg c5, tail_f]
              rfl
theorem parse_f (x : ByteArray) (hx : x.size ≤ 100000) : fixnum_Parse.f x = some (parseS (by_ x)) := by
  unfold fixnum_Parse.f parseS
  have hl := by_len x
  rw [if_pos hx, cutPrefix_f, Option.bind_some]
  cases e : dropHead 45 (by_ x) with
  | none => exact uns_f x hx (x.size + 2) (by omega) false
  | some r =>
    have hr := dropHead_len 45 _ _ e
    have hs : (⟨r.toArray⟩ : ByteArray).size + 1 = x.size := by rw [mk_size, ← hl, hr]; simp
    exact uns_f ⟨r.toArray⟩ (by omega) (x.size + 2) (by omega) true
end Go.Proofs.YtfnbflhoaemmeaaGreatDoor.EFix
end
section
namespace Go.Proofs.YtfnbflhoaemmeaaGreatDoor.EFix
open Go.RowKit Go.Lib Go.Proofs.YtfnbflhoaemmeaaGreatDoorW.PrintWords Go.Proofs.YtfnbflhoaemmeaaGreatDoorW.PrintLast Go.Proofs.YtfnbflhoaemmeaaGreatDoor.Ext Go.Proofs.YtfnbflhoaemmeaaGreatDoor.EFxA
theorem by_app (a b : ByteArray) : by_ (a ++ b) = by_ a ++ by_ b := by
  unfold by_
  simp
def rtrim (l : List UInt8) : List UInt8 := (l.reverse.dropWhile (· == 48)).reverse
theorem rtrim_snoc (y : List UInt8) (c : UInt8) : rtrim (y ++ [c]) = if c = 48 then rtrim y else y ++ [c] := by
  unfold rtrim
  rw [List.reverse_append]
  by_cases h : c = 48
  · subst h
    rw [if_pos rfl]
    rfl
  · rw [if_neg h]
    have : (c == 48) = false := beq_eq_false_iff_ne.mpr h
    simp [this]
theorem trim_l (n : Nat) : ∀ (k : Nat) (x : ByteArray), x.size = n → n ≤ 1000000 → n + 1 ≤ k → ∃ r, strings_trimRightByte.l0 k x 48 = some r ∧ by_ r = rtrim (by_ x) := by
  induction n with
  | zero =>
    intro k x hx _ hk
    obtain ⟨k, rfl⟩ : ∃ m, k = m + 1 := ⟨k - 1, by omega⟩
    refine ⟨x, by rw [strings_trimRightByte.l0, if_neg (by omega)], ?_⟩
    have hl := by_len x
    have : by_ x = [] := List.length_eq_zero_iff.mp (by omega)
    rw [this]
    rfl
  | succ n ih =>
    intro k x hx hm hk
    obtain ⟨k, rfl⟩ : ∃ m, k = m + 1 := ⟨k - 1, by omega⟩
    have hl := by_len x
    have hn : n < (by_ x).length := by omega
    have ew : wrap64 ((x.size : Int) - 1) = (n : Int) := by rw [wr _ (by omega) (by omega)]; omega
    have hs : by_ x = (by_ x).take n ++ [(by_ x)[n]] := by
      rw [List.take_append_getElem hn, List.take_of_length_le (by omega)]
    rw [strings_trimRightByte.l0, if_pos (by omega), ew, if_pos (by omega), if_pos (by omega), bt_by x n hn]
    have ht := by_take x n
    have hxs : (x.extract 0 n).size = n := by rw [← by_len, ht]; simp; omega
    have hr : rtrim (by_ x) = if (by_ x)[n] = 48 then rtrim ((by_ x).take n) else (by_ x).take n ++ [(by_ x)[n]] := by
      rw [← rtrim_snoc, ← hs]
    rw [hr]
    generalize (by_ x)[n] = c at hs
    by_cases h : c = 48
    · subst h
      rw [if_pos rfl, if_pos (show (((48 : UInt8).toNat : Nat) : Int) = 48 from rfl), if_pos (by omega)]
      obtain ⟨r, h1, h2⟩ := ih k (x.extract 0 n) hxs (by omega) (by omega)
      exact ⟨r, h1, by rw [h2, ht]⟩
    · have hc : ¬ ((c.toNat : Int) = 48) := fun h' => h (UInt8.toNat_inj.mp (by rw [show (48 : UInt8).toNat = 48 from rfl]; omega))
      rw [if_neg hc, if_neg h]
      exact ⟨x, rfl, hs⟩
theorem trim_f (x : ByteArray) (hx : x.size ≤ 1000000) : ∃ r, strings_TrimRight.f x ⟨#[48]⟩ = some r ∧ by_ r = rtrim (by_ x) := by
  unfold strings_TrimRight.f
  rw [if_pos (by rw [to_by]; rfl)]
  exact trim_l x.size (x.size + 1) x rfl hx (by omega)
theorem abs_f (a : Int) (h0 : -9223372036854775808 ≤ a) (h1 : a ≤ 9223372036854775807) : fixnum_abs.f a = some ((a.natAbs : Int), decide (a < 0)) := by
  unfold fixnum_abs.f
  by_cases c : a < 0
  · rw [if_pos c, decide_eq_true c, wrap_u64, wrap_u64]
    congr 2
    omega
  · rw [if_neg c, decide_eq_false c, wrap_u64]
    congr 2
    omega
theorem dec_len20 (u : Nat) (h : u < 18446744073709551616) : (decDigits u).length ≤ 20 := by
  have : ∀ m u : Nat, u < 10 ^ m → 1 ≤ m → (decDigits u).length ≤ m := by
    intro m
    induction m with
    | zero => intro u _ h; omega
    | succ m ih =>
      intro u hu _
      rw [decDigits]
      by_cases c : u < 10
      · rw [dif_pos c]; simp
      · rw [dif_neg c]
        have hm : 1 ≤ m := by
          cases m with
          | zero => simp at hu; omega
          | succ m => omega
        have := ih (u / 10) (by rw [Nat.pow_succ] at hu; omega) hm
        simp; omega
  exact this 20 u (Nat.lt_of_lt_of_le h (by decide)) (by omega)
theorem fmt_f (u : Nat) (h : u < 18446744073709551616) : strconv_FormatUint.f (u : Int) 10 = some ⟨(decDigits u).toArray⟩ := by
  unfold strconv_FormatUint.f
  rw [if_pos ⟨rfl, by omega, by omega⟩, Int.toNat_natCast]
def printS (a : Int) : List UInt8 :=
  (if a < 0 then [45] else []) ++ (decDigits (a.natAbs / 10000) ++ (if 0 < a.natAbs % 10000 then 46 :: rtrim ((decDigits (10000 + a.natAbs % 10000)).drop 1) else []))
theorem rtrim_len (l : List UInt8) : (rtrim l).length ≤ l.length := by
  unfold rtrim
  rw [List.length_reverse]
  have := (List.dropWhile_sublist (fun x : UInt8 => x == 48) (l := l.reverse)).length_le
  simpa using this
theorem print_f (a : Int) (h0 : -9223372036854775808 ≤ a) (h1 : a ≤ 9223372036854775807) : ∃ r, fixnum_Print.f a = some r ∧ by_ r = printS a := by
  unfold fixnum_Print.f printS
  rw [abs_f a h0 h1, Option.bind_some]
  obtain ⟨u, hu⟩ : ∃ u, a.natAbs = u := ⟨_, rfl⟩
  have hub : u ≤ 9223372036854775808 := by omega
  rw [hu]
  have e1 : IntKind.u64.wrap (Int.tdiv (u : Int) 10000) = ((u / 10000 : Nat) : Int) := by
    rw [Int.tdiv_eq_ediv_of_nonneg (by omega), wrap_u64]; omega
  have e2 : Int.tmod (u : Int) 10000 = ((u % 10000 : Nat) : Int) := by
    rw [Int.tmod_eq_emod_of_nonneg (by omega)]; omega
  have e3 : IntKind.u64.wrap (10000 + ((u % 10000 : Nat) : Int)) = ((10000 + u % 10000 : Nat) : Int) := by rw [wrap_u64]; omega
  rw [e1, e2, e3, fmt_f _ (by omega), fmt_f _ (by omega)]
  have l1 := dec_len20 (u / 10000) (by omega)
  have l2 := dec_len20 (10000 + u % 10000) (by omega)
  have z0 : (⟨#[46]⟩ : ByteArray).size = 1 := rfl
  have z1 : (⟨(decDigits (u / 10000)).toArray⟩ : ByteArray).size ≤ 20 := by rw [mk_size]; exact l1
  obtain ⟨A, hA⟩ : ∃ A : ByteArray, (⟨(decDigits (u / 10000)).toArray⟩ : ByteArray) = A := ⟨_, rfl⟩
  have bA : by_ A = decDigits (u / 10000) := by rw [← hA]; rfl
  rw [hA] at z1 ⊢
  rw [Option.bind_some]
  by_cases c : 0 < u % 10000
  · rw [if_pos (show ((u % 10000 : Nat) : Int) > 0 by omega), if_pos c]
    obtain ⟨B, hB⟩ : ∃ B : ByteArray, (⟨(decDigits (10000 + u % 10000)).toArray⟩ : ByteArray) = B := ⟨_, rfl⟩
    have bB : by_ B = decDigits (10000 + u % 10000) := by rw [← hB]; rfl
    rw [hB, Option.bind_some]
    have lB := by_len B
    rw [bB] at lB
    have pB : 1 ≤ B.size := by
      rw [← lB, decDigits]
      rw [dif_neg (by omega)]
      simp
    rw [if_pos (by omega)]
    have hd := by_drop B 1
    have lE := by_len (B.extract 1 B.size)
    rw [hd, bB] at lE
    obtain ⟨r, h2, h3⟩ := trim_f (B.extract 1 B.size) (by rw [← lE]; simp; omega)
    rw [h2, Option.bind_some]
    rw [hd, bB] at h3
    have lr := by_len r
    have l4 := rtrim_len ((decDigits (10000 + u % 10000)).drop 1)
    rw [← h3] at l4
    have l5 : ((decDigits (10000 + u % 10000)).drop 1).length ≤ 20 := by simp; omega
    have sz : ((⟨#[46]⟩ : ByteArray) ++ r).size = 1 + r.size := by rw [ByteArray.size_append, z0]
    have sA : (A ++ ((⟨#[46]⟩ : ByteArray) ++ r)).size = A.size + (1 + r.size) := by rw [ByteArray.size_append, sz]
    have bb : by_ ((⟨#[46]⟩ : ByteArray) ++ r) = 46 :: by_ r := by rw [by_app]; rfl
    rw [if_pos (by omega), if_pos (by rw [sz]; omega)]
    by_cases g : a < 0
    · rw [decide_eq_true g, if_pos rfl, if_pos (by rw [sA]; omega), if_pos g]
      exact ⟨_, rfl, by rw [by_app, by_app, bb, bA, h3]; rfl⟩
    · rw [decide_eq_false g, if_neg Bool.false_ne_true, if_neg g]
      exact ⟨_, rfl, by rw [by_app, bb, bA, h3]; rfl⟩
  · rw [if_neg (show ¬ ((u % 10000 : Nat) : Int) > 0 by omega), if_neg c]
    by_cases g : a < 0
    · rw [decide_eq_true g, if_pos rfl, if_pos (by omega), if_pos g]
      exact ⟨_, rfl, by rw [by_app, bA]; simp; rfl⟩
    · rw [decide_eq_false g, if_neg Bool.false_ne_true, if_neg g]
      exact ⟨_, rfl, by rw [bA]; simp⟩
end Go.Proofs.YtfnbflhoaemmeaaGreatDoor.EFix
end
section
namespace Go.Proofs.YtfnbflhoaemmeaaGreatDoor.EFix
open Go.RowKit Go.Proofs.YtfnbflhoaemmeaaGreatDoor.Ext Go.Proofs.YtfnbflhoaemmeaaGreatDoor.EFxA Go.Proofs.YtfnbflhoaemmeaaGreatDoorW.PrintWords Go.Proofs.YtfnbflhoaemmeaaGreatDoorW.PrintLast Go.Proofs.YtfnbflhoaemmeaaGreatDoorW.PrintMore
attribute [local go_sem] max2_int min2_int max_two min_two max_three min_three max_four min_four   
set_option linter.unusedVariables false
set_option linter.unusedSimpArgs false
def fixnum_Sum.l0 : Nat → Int → Int → List Int → Int → Int → Option (Int × Bool)
  | 0, _, _, _, _, _ => none
  | k + 1, x4, x5, x9, x10, x11 => if x11 < x10 then (if 0 ≤ x11 then (if x11 < (x9.length : Int) then ((add64.f x5 (IntKind.u64.wrap (rd x9 x11)) 0).bind fun bt107 => ((add64.f x4 (IntKind.u64.wrap ((rd x9 x11) / 9223372036854775808)) bt107.2).bind fun bt109 => (fixnum_Sum.l0 k bt109.1 bt107.1 x9 x10 (wrap64 (x11 + 1))))) else (none)) else (none)) else (if x4 = (IntKind.u64.wrap ((wrap64 (x5)) / 9223372036854775808)) then (some (wrap64 (x5), true)) else (some (0, false)))
def fixnum_Sum.f (k : Nat) (l0 : List Int) : Option (Int × Bool) := fixnum_Sum.l0 k 0 0 l0 (l0.length : Int) 0
set_option maxHeartbeats 8000000 in
set_option maxRecDepth 100000 in
theorem fixnum_Sum.calls (k : Nat) (A0 : Option Addr) (c0 : Nat) (l0 : List Int) (r1 : Int) (r2 : Bool) (w : World) (hr0 : Kd.C (Kd.int .i64) w A0 l0.length l0) (hc0 : l0.length ≤ c0) (h : fixnum_Sum.f k l0 = some (r1, r2)) :
    Calls Tryz.prog 84 #[.slice A0 l0.length c0] w fun e w' => e = .returned (.tuple #[.int .i64 r1, .bool r2]) ∧ Drawn0 w w' := by
  have HR0 := Aside0.mk hr0
  have HC0 := Aside0.mk hc0
  clear hr0 hc0
  have H : (fixnum_Sum.l0 k 0 0 l0 (l0.length : Int) 0) = some (r1, r2) := h
  clear h
  have H' := Aside0.mk H
  clear H
  go_enter Tryz.func84, Tryz.ntmps84
  go_wp2
  go_loopg [4, 5, 11] k (fun kq v4 v5 v11 w' => ∃ (x4_1 : Int) (x5_1 : Int) (x11_1 : Int), v4 = .int .u64 x4_1 ∧ v5 = .int .u64 x5_1 ∧ v11 = .int .i64 x11_1 ∧ Aside0 (fixnum_Sum.l0 kq x4_1 x5_1 l0 (l0.length : Int) x11_1 = some (r1, r2)) ∧ Aside0 (kq ≤ k) ∧ Drawn0 w w')
  case atStart => exact ⟨(0), (0), (0), (by first | rfl | (simp; done) | (simp [*]; done)), (by first | rfl | (simp; done) | (simp [*]; done)), (by first | rfl | (simp; done) | (simp [*]; done)), H', ⟨Nat.le_refl _⟩, by repeat (first | exact Drawn0.refl _ | apply Drawn0.step)⟩
  case round =>
    clear H'
    obtain ⟨x4_1, x5_1, x11_1, rfl, rfl, rfl, HA, HK1, ⟨m1, rfl⟩⟩ := hrel
    cases gk with
    | zero => exact absurd HA.out (by simp [fixnum_Sum.l0])
    | succ k1 =>
      have H := HA.out
      clear HA
      simp only [fixnum_Sum.l0] at H
      by_cases c2 : x11_1 < (l0.length : Int)
      · rw [if_pos c2] at H
        have c2b0 : decide (x11_1 < (l0.length : Int)) = true := decide_eq_true c2
        clear c2
        by_cases c3 : 0 ≤ x11_1
        · rw [if_pos c3] at H
          have c3b0 : decide (0 ≤ x11_1) = true := decide_eq_true c3
          clear c3
          by_cases c4 : x11_1 < (l0.length : Int)
          · rw [if_pos c4] at H
            have c4b0 : decide (x11_1 < (l0.length : Int)) = true := decide_eq_true c4
            clear c4
            replace H := Option.bind_eq_some_iff.mp H
            obtain ⟨⟨t107, t108⟩, A50, H⟩ := H
            replace H : ((add64.f x4_1 (IntKind.u64.wrap ((rd l0 x11_1) / 9223372036854775808)) t108).bind fun bt109 => (fixnum_Sum.l0 k1 bt109.1 t107 l0 (l0.length : Int) (wrap64 (x11_1 + 1)))) = some (r1, r2) := H
            have A5 := Aside0.mk A50
            clear A50
            replace H := Option.bind_eq_some_iff.mp H
            obtain ⟨⟨t109, t110⟩, A60, H⟩ := H
            replace H : (fixnum_Sum.l0 k1 t109 t107 l0 (l0.length : Int) (wrap64 (x11_1 + 1))) = some (r1, r2) := H
            have A6 := Aside0.mk A60
            clear A60
            have H' := Aside0.mk H
            clear H
            have p106 : 0 ≤ (x11_1 : Int) := of_decide_eq_true (by first | (with_reducible assumption) | assumption)
            have q106 : x11_1 < (l0.length : Int) := of_decide_eq_true (by first | (with_reducible assumption) | assumption)
            obtain ⟨ad106, e106, hx106_0⟩ := Kd.at_int HR0.out x11_1 p106 q106
            cases e106
            replace p106 := eq_true p106
            replace q106 := eq_true q106
            try (have q106z := q106; simp only [ByteArray.size_extract, Nat.min_self] at q106z)
            go_wp2_with (first | ((with_reducible refine gate_callee (f := 107) rfl ?_); refine add64_event (some 19) rfl rfl rfl x5_1 (IntKind.u64.wrap (rd l0 x11_1)) 0 t107 t108 (by (try simp only [List.map_toArray, List.map_cons, List.map_nil]); first | done | rfl | (simp only [List.length_drop, List.length_take]; rfl)) A5.out ?_) | ((with_reducible refine gate_callee (f := 107) rfl ?_); refine add64_event (some 28) rfl rfl rfl x4_1 (IntKind.u64.wrap ((rd l0 x11_1) / 9223372036854775808)) t108 t109 t110 (by (try simp only [List.map_toArray, List.map_cons, List.map_nil]); first | done | rfl | (simp only [List.length_drop, List.length_take]; rfl)) A6.out ?_))
            go_roundg k1
            case measure => have := HK1.out; omega
            case rel => exact ⟨(t109), (t107), (wrap64 (x11_1 + 1)), (by first | rfl | (simp; done) | (simp [*]; done)), (by first | rfl | (simp; done) | (simp [*]; done)), (by first | rfl | (simp; done) | (simp [*]; done)), H', ⟨by have := HK1.out; omega⟩, by repeat (first | exact Drawn0.refl _ | apply Drawn0.step)⟩
          · rw [if_neg c4] at H
            exact absurd H (by simp)
        · rw [if_neg c3] at H
          exact absurd H (by simp)
      · rw [if_neg c2] at H
        have c2b0 : decide (x11_1 < (l0.length : Int)) = false := decide_eq_false c2
        clear c2
        by_cases c7 : x4_1 = (IntKind.u64.wrap ((wrap64 (x5_1)) / 9223372036854775808))
        · rw [if_pos c7] at H
          have c7b0 : (x4_1 == (IntKind.u64.wrap ((wrap64 (x5_1)) / 9223372036854775808))) = true := beq_iff_eq.mpr c7
          have c7b1 : (x4_1 != (IntKind.u64.wrap ((wrap64 (x5_1)) / 9223372036854775808))) = false := bne_eq_false_iff_eq.mpr c7
          clear c7
          simp only [Option.some.injEq, Prod.mk.injEq] at H
          obtain ⟨rfl, rfl⟩ := H
          go_wp2
          go_ret2
          exact ⟨by first | rfl | (simp; done) | (simp [*]; done) | (simp; generalize ByteArray.toList _ = l_; cases l_ <;> rfl), by repeat (first | exact Drawn0.refl _ | apply Drawn0.step)⟩
        · rw [if_neg c7] at H
          have c7b0 : (x4_1 == (IntKind.u64.wrap ((wrap64 (x5_1)) / 9223372036854775808))) = false := beq_eq_false_iff_ne.mpr c7
          have c7b1 : (x4_1 != (IntKind.u64.wrap ((wrap64 (x5_1)) / 9223372036854775808))) = true := bne_iff_ne.mpr c7
          simp only [Option.some.injEq, Prod.mk.injEq] at H
          obtain ⟨rfl, rfl⟩ := H
          go_wp2
          go_ret2
          exact ⟨by first | rfl | (simp; done) | (simp [*]; done) | (simp; generalize ByteArray.toList _ = l_; cases l_ <;> rfl), by repeat (first | exact Drawn0.refl _ | apply Drawn0.step)⟩
def fixnum_Sub.f (a0 : Int) (a1 : Int) : Option (Int × Bool) := if ((decide (a1 > 0)) != (decide ((wrap64 (a0 - a1)) < a0))) = true then (if a1 = 0 then (some (wrap64 (a0 - a1), true)) else (some (0, false))) else (some (wrap64 (a0 - a1), true))
set_option maxHeartbeats 8000000 in
set_option maxRecDepth 100000 in
theorem fixnum_Sub.calls (a0 : Int) (a1 : Int) (r1 : Int) (r2 : Bool) (w : World) (h : fixnum_Sub.f a0 a1 = some (r1, r2)) :
    Calls Tryz.prog 88 #[.int .i64 a0, .int .i64 a1] w fun e w' => e = .returned (.tuple #[.int .i64 r1, .bool r2]) ∧ Drawn0 w w' := by
  have H : (if ((decide (a1 > 0)) != (decide ((wrap64 (a0 - a1)) < a0))) = true then (if a1 = 0 then (some (wrap64 (a0 - a1), true)) else (some (0, false))) else (some (wrap64 (a0 - a1), true))) = some (r1, r2) := h
  clear h
  by_cases c3 : ((decide (a1 > 0)) != (decide ((wrap64 (a0 - a1)) < a0))) = true
  · rw [if_pos c3] at H
    have c3b0 : ((decide (a1 > 0)) != (decide ((wrap64 (a0 - a1)) < a0))) = true := c3
    (try (have c3b1 : decide ((decide (a1 > 0)) = (decide ((wrap64 (a0 - a1)) < a0))) = false := by simpa using c3))
    (try (have c3b2 : ((decide (a1 > 0)) == (decide ((wrap64 (a0 - a1)) < a0))) = false := by simpa using c3))
    (try (have c3b3 : ¬ ((decide (a1 > 0)) = (decide ((wrap64 (a0 - a1)) < a0))) := by simpa using c3))
    clear c3
    by_cases c4 : a1 = 0
    · rw [if_pos c4] at H
      have c4b0 : (a1 == 0) = true := beq_iff_eq.mpr c4
      have c4b1 : (a1 != 0) = false := bne_eq_false_iff_eq.mpr c4
      clear c4
      simp only [Option.some.injEq, Prod.mk.injEq] at H
      obtain ⟨rfl, rfl⟩ := H
      go_enter Tryz.func88, Tryz.ntmps88
      go_wp2
      go_ret2
      exact ⟨by first | rfl | (simp; done) | (simp [*]; done) | (simp; generalize ByteArray.toList _ = l_; cases l_ <;> rfl), by repeat (first | exact Drawn0.refl _ | apply Drawn0.step)⟩
    · rw [if_neg c4] at H
      have c4b0 : (a1 == 0) = false := beq_eq_false_iff_ne.mpr c4
      have c4b1 : (a1 != 0) = true := bne_iff_ne.mpr c4
      simp only [Option.some.injEq, Prod.mk.injEq] at H
      obtain ⟨rfl, rfl⟩ := H
      go_enter Tryz.func88, Tryz.ntmps88
      go_wp2
      go_ret2
      exact ⟨by first | rfl | (simp; done) | (simp [*]; done) | (simp; generalize ByteArray.toList _ = l_; cases l_ <;> rfl), by repeat (first | exact Drawn0.refl _ | apply Drawn0.step)⟩
  · rw [if_neg c3] at H
    have c3b0 : ((decide (a1 > 0)) != (decide ((wrap64 (a0 - a1)) < a0))) = false := by simpa using c3
    (try (have c3b1 : decide ((decide (a1 > 0)) = (decide ((wrap64 (a0 - a1)) < a0))) = true := by simpa using c3))
    (try (have c3b2 : ((decide (a1 > 0)) == (decide ((wrap64 (a0 - a1)) < a0))) = true := by simpa using c3))
    clear c3
    simp only [Option.some.injEq, Prod.mk.injEq] at H
    obtain ⟨rfl, rfl⟩ := H
    go_enter Tryz.func88, Tryz.ntmps88
    go_wp2
    go_ret2
    exact ⟨by first | rfl | (simp; done) | (simp [*]; done) | (simp; generalize ByteArray.toList _ = l_; cases l_ <;> rfl), by repeat (first | exact Drawn0.refl _ | apply Drawn0.step)⟩
end Go.Proofs.YtfnbflhoaemmeaaGreatDoor.EFix
end
section
namespace Go.Proofs.YtfnbflhoaemmeaaGreatDoor.EFix
open Go.RowKit Go.Lib Go.Proofs.YtfnbflhoaemmeaaGreatDoorW.PrintWords Go.Proofs.YtfnbflhoaemmeaaGreatDoorW.PrintLast Go.Proofs.YtfnbflhoaemmeaaGreatDoor.Ext Go.Proofs.YtfnbflhoaemmeaaGreatDoor.EFxA
theorem add64_f (x y c : Int) (h : (0 ≤ x ∧ x < 18446744073709551616) ∧ (0 ≤ y ∧ y < 18446744073709551616) ∧ 0 ≤ c ∧ c ≤ 1) : add64.f x y c = some ((x + y + c) % 18446744073709551616, (x + y + c) / 18446744073709551616) := by
  unfold add64.f
  rw [if_pos h]
def sumS (T : Int) : Int × Bool := if -9223372036854775808 ≤ T ∧ T ≤ 9223372036854775807 then (T, true) else (0, false)
theorem sum_l (l : List Int) (hl : l.length ≤ 1000000) (hw : ∀ a, a ∈ l → -9223372036854775808 ≤ a ∧ a ≤ 9223372036854775807) (d : Nat) : ∀ (k j : Nat) (x4 x5 S : Int), j + d = l.length → d + 1 ≤ k →
    (0 ≤ x4 ∧ x4 < 18446744073709551616) → (0 ≤ x5 ∧ x5 < 18446744073709551616) → (x4 * 18446744073709551616 + x5) % 340282366920938463463374607431768211456 = S % 340282366920938463463374607431768211456 →
    -((j : Int) * 9223372036854775808) ≤ S → S ≤ (j : Int) * 9223372036854775808 →
    fixnum_Sum.l0 k x4 x5 l (l.length : Int) (j : Int) = some (sumS (S + (l.drop j).sum)) := by
  induction d with
  | zero =>
    intro k j x4 x5 S hj hk h4 h5 hm s0 s1
    obtain ⟨k, rfl⟩ : ∃ m, k = m + 1 := ⟨k - 1, by omega⟩
    rw [fixnum_Sum.l0, if_neg (by omega), List.drop_of_length_le (by omega), List.sum_nil, Int.add_zero]
    have ew : IntKind.u64.wrap (wrap64 x5 / 9223372036854775808) = if x5 < 9223372036854775808 then 0 else 18446744073709551615 := by
      rw [wrap_u64]
      unfold wrap64
      split <;> omega
    rw [ew]
    unfold sumS
    have e5 : wrap64 x5 = if x5 < 9223372036854775808 then x5 else x5 - 18446744073709551616 := by
      unfold wrap64
      split <;> omega
    rw [e5]
    by_cases c : x5 < 9223372036854775808
    · rw [if_pos c, if_pos c]
      by_cases c4 : x4 = 0
      · rw [if_pos c4, if_pos (by omega), show x5 = S by omega]
      · rw [if_neg c4, if_neg (by omega)]
    · rw [if_neg c, if_neg c]
      by_cases c4 : x4 = 18446744073709551615
      · rw [if_pos c4, if_pos (by omega), show x5 - 18446744073709551616 = S by omega]
      · rw [if_neg c4, if_neg (by omega)]
  | succ d ih =>
    intro k j x4 x5 S hj hk h4 h5 hm s0 s1
    obtain ⟨k, rfl⟩ : ∃ m, k = m + 1 := ⟨k - 1, by omega⟩
    have hjl : j < l.length := by omega
    have er : rd l (j : Int) = l[j] := by simp [rd, hjl]
    have ha := hw l[j] (List.getElem_mem hjl)
    rw [fixnum_Sum.l0, if_pos (by omega), if_pos (by omega), if_pos (by omega), er, List.drop_eq_getElem_cons hjl, List.sum_cons]
    generalize l[j] = a at ha
    have eA : IntKind.u64.wrap a = a % 18446744073709551616 := wrap_u64 a
    have eB : IntKind.u64.wrap (a / 9223372036854775808) = if a < 0 then 18446744073709551615 else 0 := by
      rw [wrap_u64]
      split <;> omega
    rw [eA, eB, add64_f _ _ _ (by omega), Option.bind_some]
    rw [add64_f _ _ _ (by refine ⟨h4, ?_, ?_, ?_⟩ <;> (try split) <;> omega), Option.bind_some]
    have := ih k (j + 1) ((x4 + (if a < 0 then 18446744073709551615 else 0) + (x5 + a % 18446744073709551616 + 0) / 18446744073709551616) % 18446744073709551616) ((x5 + a % 18446744073709551616 + 0) % 18446744073709551616) (S + a) (by omega) (by omega) (by omega) (by omega) (by split <;> omega) (by omega) (by omega)
    rw [wr _ (by omega) (by omega)]
    rw [show (((j + 1 : Nat) : Int)) = (j : Int) + 1 by omega] at this
    rw [this]
    congr 2
    omega
theorem sum_f (l : List Int) (hl : l.length ≤ 1000000) (hw : ∀ a, a ∈ l → -9223372036854775808 ≤ a ∧ a ≤ 9223372036854775807) (k : Nat) (hk : l.length + 1 ≤ k) : fixnum_Sum.f k l = some (sumS l.sum) := by
  unfold fixnum_Sum.f
  have := sum_l l hl hw l.length k 0 0 0 0 (by omega) hk (by omega) (by omega) (by omega) (by omega) (by omega)
  simpa using this
end Go.Proofs.YtfnbflhoaemmeaaGreatDoor.EFix
end
section
namespace Go.Proofs.YtfnbflhoaemmeaaGreatDoor.EFix
open Go.RowKit Go.Lib Go.Proofs.YtfnbflhoaemmeaaGreatDoor.Ext
def fin (N : Nat) (neg : Bool) : Int × Bool := if N < 18446744073709551616 then sgnS N neg else (0, false)
end Go.Proofs.YtfnbflhoaemmeaaGreatDoor.EFix
end
section
namespace Go.Proofs.YtfnbflhoaemmeaaGreatDoor.Ext
open Go.RowKit Go.Proofs.YtfnbflhoaemmeaaGreatDoorW.PrintWords Go.Proofs.YtfnbflhoaemmeaaGreatDoorW.PrintLast Go.Proofs.YtfnbflhoaemmeaaGreatDoorW.PrintMore
attribute [local go_sem] max2_int min2_int max_two min_two max_three min_three max_four min_four
set_option linter.unusedVariables false
set_option linter.unusedSimpArgs false
def cs6 (l : List Int) : Array Value := #[.int .u64 (l.getD 0 0), .int .u64 (l.getD 1 0), .int .u64 (l.getD 2 0), .int .u64 (l.getD 3 0), .int .u64 (l.getD 4 0), .int .u64 (l.getD 5 0)]
def dig6 (a : List Int) : Prop := ∀ m, 0 ≤ a.getD m 0 ∧ a.getD m 0 < 4294967296
end Go.Proofs.YtfnbflhoaemmeaaGreatDoor.Ext
end
section
namespace Go.Proofs.YtfnbflhoaemmeaaGreatDoor.Ext
open Go.RowKit Go.Proofs.YtfnbflhoaemmeaaGreatDoorW.PrintWords Go.Proofs.YtfnbflhoaemmeaaGreatDoorW.PrintLast Go.Proofs.YtfnbflhoaemmeaaGreatDoorW.PrintMore
attribute [local go_sem] max2_int min2_int max_two min_two max_three min_three max_four min_four cs6
set_option linter.unusedVariables false
set_option linter.unusedSimpArgs false
end Go.Proofs.YtfnbflhoaemmeaaGreatDoor.Ext
end
section
namespace Go.Proofs.YtfnbflhoaemmeaaGreatDoor.Ext
open Go.RowKit Go.Proofs.YtfnbflhoaemmeaaGreatDoorW.PrintWords Go.Proofs.YtfnbflhoaemmeaaGreatDoorW.PrintLast Go.Proofs.YtfnbflhoaemmeaaGreatDoorW.PrintMore
attribute [local go_sem] max2_int min2_int max_two min_two max_three min_three max_four min_four cs6
set_option linter.unusedVariables false
set_option linter.unusedSimpArgs false
end Go.Proofs.YtfnbflhoaemmeaaGreatDoor.Ext
end
section
namespace Go.Proofs.YtfnbflhoaemmeaaGreatDoor.Ext
open Go.RowKit Go.Proofs.YtfnbflhoaemmeaaGreatDoor.EFix
def val6 (l : List Int) : Int := l.getD 0 0 + l.getD 1 0 * 4294967296 + l.getD 2 0 * 18446744073709551616 + l.getD 3 0 * 79228162514264337593543950336 + l.getD 4 0 * 340282366920938463463374607431768211456 + l.getD 5 0 * 1461501637330902918203684832716283019655932542976
end Go.Proofs.YtfnbflhoaemmeaaGreatDoor.Ext
end
section
namespace Go.Proofs.YtfnbflhoaemmeaaGreatDoor.Ext
open Go.RowKit Go.Proofs.YtfnbflhoaemmeaaGreatDoorW.PrintWords Go.Proofs.YtfnbflhoaemmeaaGreatDoorW.PrintLast Go.Proofs.YtfnbflhoaemmeaaGreatDoorW.PrintMore
attribute [local go_sem] max2_int min2_int max_two min_two max_three min_three max_four min_four cs6
set_option linter.unusedVariables false
set_option linter.unusedSimpArgs false
end Go.Proofs.YtfnbflhoaemmeaaGreatDoor.Ext
end
section
namespace Go.Proofs.YtfnbflhoaemmeaaGreatDoor.Ext
open Go.RowKit Go.Lib Go.Proofs.YtfnbflhoaemmeaaGreatDoorW.PrintWords Go.Proofs.YtfnbflhoaemmeaaGreatDoor.EFix
set_option linter.unusedVariables false
def cap (N : Nat) (V : List Int) : Prop := dig6 V ∧ V.length = 6 ∧ ((N < 79228162514264337593543950336 ∧ val6 V = (N : Int)) ∨ (79228162514264337593543950336 ≤ N ∧ 79228162514264337593543950336 ≤ val6 V ∧ val6 V < 158456325028528675187087900672))
end Go.Proofs.YtfnbflhoaemmeaaGreatDoor.Ext
end
section
namespace Go.Proofs.YtfnbflhoaemmeaaGreatDoor.EFix
open Go.RowKit Go.Proofs.YtfnbflhoaemmeaaGreatDoor.Ext Go.Proofs.YtfnbflhoaemmeaaGreatDoor.EFxA Go.Proofs.YtfnbflhoaemmeaaGreatDoorW.PrintWords Go.Proofs.YtfnbflhoaemmeaaGreatDoorW.PrintLast Go.Proofs.YtfnbflhoaemmeaaGreatDoorW.PrintMore
attribute [local go_sem] max2_int min2_int max_two min_two max_three min_three max_four min_four   
set_option linter.unusedVariables false
set_option linter.unusedSimpArgs false
end Go.Proofs.YtfnbflhoaemmeaaGreatDoor.EFix
end
section
namespace Go.Proofs.YtfnbflhoaemmeaaGreatDoor.EVal
open Go.RowKit Go.Proofs.YtfnbflhoaemmeaaGreatDoor.Ext Go.Proofs.YtfnbflhoaemmeaaGreatDoor.EFxA Go.Proofs.YtfnbflhoaemmeaaGreatDoor.EFix Go.Proofs.YtfnbflhoaemmeaaGreatDoorW.PrintWords Go.Proofs.YtfnbflhoaemmeaaGreatDoorW.PrintLast Go.Proofs.YtfnbflhoaemmeaaGreatDoorW.PrintMore
attribute [local go_sem] max2_int min2_int max_two min_two max_three min_three max_four min_four   
set_option linter.unusedVariables false
set_option linter.unusedSimpArgs false
def errW : Option Int → Value
  | none => .nilIface
  | some c => .iface 0 (.int .i64 c)
theorem errW_none : errW none = .nilIface := rfl
theorem errW_some (c : Int) : errW (some c) = .iface 0 (.int .i64 c) := rfl
theorem info24 : (Tryz.prog.info? 24).map (fun i => (i.zero, i.size, i.bytes)) = some (some (.agg #[(.int .i64 0), (.int .i64 0), (.string ⟨#[]⟩), (.bool false), (.int .i64 0)]), 5, 48) := by kernel_rfl
structure S24 where
  f0 : Int
  f1 : Int
  f2 : ByteArray
  f3 : Bool
  f4 : Int
def z24 : S24 := ⟨(0 : Int), (0 : Int), (⟨#[]⟩ : ByteArray), false, (0 : Int)⟩
def k24 : Kd S24 := Kd.iso (Kd.pair (Kd.int .i64) (Kd.pair (Kd.int .i64) (Kd.pair Kd.string (Kd.pair Kd.bool (Kd.int .i64))))) (fun x : S24 => (x.f0, x.f1, x.f2, x.f3, x.f4))
theorem k24_open {w : World} {x : S24} {cs : List Value} (h : k24.K w x cs) : cs = [.int .i64 x.f0, .int .i64 x.f1, .string x.f2, .bool x.f3, .int .i64 x.f4] := by
  obtain ⟨_, _, rfl, rfl, ⟨_, _, rfl, rfl, ⟨_, _, rfl, rfl, ⟨_, _, rfl, rfl, rfl⟩⟩⟩⟩ := h
  exact rfl
theorem k24_mkM (w : World) (base : Nat) (ok : Nat → Prop) (x : S24)  : k24.M w base ok x [.int .i64 x.f0, .int .i64 x.f1, .string x.f2, .bool x.f3, .int .i64 x.f4] := ⟨[.int .i64 x.f0], [.int .i64 x.f1, .string x.f2, .bool x.f3, .int .i64 x.f4], rfl, rfl, ⟨[.int .i64 x.f1], [.string x.f2, .bool x.f3, .int .i64 x.f4], rfl, rfl, ⟨[.string x.f2], [.bool x.f3, .int .i64 x.f4], rfl, rfl, ⟨[.bool x.f3], [.int .i64 x.f4], rfl, rfl, rfl⟩⟩⟩⟩
def rd_T24 (xs : List S24) (i : Int) : S24 := xs.getD i.toNat z24
theorem at_T24 {w : World} {A : Option Addr} {n : Nat} {xs : List S24} (h : Kd.C k24 w A n xs) (i : Int) (h0 : 0 ≤ i) (h1 : i < n) : ∃ ad , A = some ad ∧ w.cell? (ad.add (i.toNat * 5)) = some (.int .i64 (rd_T24 xs i).f0) ∧ w.cell? ⟨(ad.add (i.toNat * 5)).block, (ad.add (i.toNat * 5)).off + 1, none⟩ = some (.int .i64 (rd_T24 xs i).f1) ∧ w.cell? ⟨(ad.add (i.toNat * 5)).block, (ad.add (i.toNat * 5)).off + 2, none⟩ = some (.string (rd_T24 xs i).f2) ∧ w.cell? ⟨(ad.add (i.toNat * 5)).block, (ad.add (i.toNat * 5)).off + 3, none⟩ = some (.bool (rd_T24 xs i).f3) ∧ w.cell? ⟨(ad.add (i.toNat * 5)).block, (ad.add (i.toNat * 5)).off + 4, none⟩ = some (.int .i64 (rd_T24 xs i).f4) := by
  obtain ⟨ad, c, e, _, hK, hc0⟩ := Kd.C_get h z24 i h0 h1
  have hc : ∀ j u, c[j]? = some u → w.cell? (ad.add (i.toNat * 5 + j)) = some u := hc0
  obtain rfl := k24_open hK
  exact ⟨ad, e, hc 0 _ rfl, by rw [← add_field _ _ 1 (by omega)]; exact hc 1 _ rfl, by rw [← add_field _ _ 2 (by omega)]; exact hc 2 _ rfl, by rw [← add_field _ _ 3 (by omega)]; exact hc 3 _ rfl, by rw [← add_field _ _ 4 (by omega)]; exact hc 4 _ rfl⟩
theorem bA {w W : World} (h : Below w.heap.size w W) (o : Obj) : Below w.heap.size w (W.alloc o) := below_alloc h o
theorem bN {B : Nat} {w W : World} (h : Below B w W) (n : Nat) : Below B w (W.drewN n) := pw_below_drewN h n
theorem bD {B : Nat} {w W : World} (h : Below B w W) : Below B w W.drew := below_drew1 h
theorem five {w : World} {g : Nat} {v0 v1 v2 v3 v4 : Value} (h : w.heap[g]? = some (.cells #[v0, v1, v2, v3, v4] 24 (0, 0))) :
    w.cell? ⟨g, 0, none⟩ = some v0 ∧ w.cell? ⟨g, 1, none⟩ = some v1 ∧ w.cell? ⟨g, 2, none⟩ = some v2 ∧ w.cell? ⟨g, 3, none⟩ = some v3 ∧ w.cell? ⟨g, 4, none⟩ = some v4 ∧
    w.frozen? ⟨g, 0, none⟩ = false ∧ w.frozen? ⟨g, 1, none⟩ = false ∧ w.frozen? ⟨g, 2, none⟩ = false ∧ w.frozen? ⟨g, 3, none⟩ = false ∧ w.frozen? ⟨g, 4, none⟩ = false :=
  ⟨(blk_cell h 0).trans rfl, (blk_cell h 1).trans rfl, (blk_cell h 2).trans rfl, (blk_cell h 3).trans rfl, (blk_cell h 4).trans rfl, blk_frozen h 0, blk_frozen h 1, blk_frozen h 2, blk_frozen h 3, blk_frozen h 4⟩
end Go.Proofs.YtfnbflhoaemmeaaGreatDoor.EVal
end
