/- Walks of frame: zbyte.Sum and the reference's sum: the CRC of bytes. -/
import Derived.Test.YtlfckoeolcnniaaNetD
import Derived.Laws.BitsAllLaws
namespace Go.Proofs.Ytlfckoeolcnniaa.Net
open Go.RowKit Go.Proofs.YtlfckoeolcnniaaW.PrintWords Go.Proofs.YtlfckoeolcnniaaW.PrintLast Go.Proofs.YtlfckoeolcnniaaW.PrintMore
set_option linter.unusedVariables false
set_option linter.unusedSimpArgs false
def crcBit (x : Nat) : Nat := if x % 2 = 1 then (x / 2) ^^^ 3988292384 else x / 2
def bitsK : Nat → Nat → Nat
  | 0, x => x
  | k + 1, x => crcBit (bitsK k x)
def crcTo (x : Nat) (bs : List Int) : Nat → Nat
  | 0 => x
  | m + 1 => bitsK 8 (crcTo x bs m ^^^ (bs.getD m 0).toNat)
theorem crcBit_lt (x : Nat) (h : x < 4294967296) : crcBit x < 4294967296 := by
  unfold crcBit
  split
  · exact Nat.xor_lt_two_pow (n := 32) (by omega) (by omega)
  · omega
theorem bitsK_lt : ∀ (k x : Nat), x < 4294967296 → bitsK k x < 4294967296
  | 0, x, h => h
  | k + 1, x, h => crcBit_lt _ (bitsK_lt k x h)
def bytes (bs : List Int) : Prop := ∀ x ∈ bs, 0 ≤ x ∧ x < 256
theorem bytes_at {bs : List Int} (h : bytes bs) (m : Nat) : 0 ≤ bs.getD m 0 ∧ bs.getD m 0 < 256 := by
  rcases Nat.lt_or_ge m bs.length with hm | hm
  · rw [List.getD_eq_getElem?_getD, List.getElem?_eq_getElem hm]
    exact h _ (List.getElem_mem hm)
  · rw [List.getD_eq_getElem?_getD, List.getElem?_eq_none hm]
    simp
theorem crcTo_lt (x : Nat) (bs : List Int) (h : x < 4294967296) (hb : bytes bs) : ∀ m, crcTo x bs m < 4294967296
  | 0 => h
  | m + 1 => bitsK_lt 8 _ (Nat.xor_lt_two_pow (n := 32) (crcTo_lt x bs h hb m) (by have := bytes_at hb m; omega))
theorem RdB.at {w : World} {a : Addr} {n c : Nat} {bs : List Int} (h : RdB w (.slice (some a) n c) bs) (j : Nat) (hj : j < bs.length) : w.cell? (a.add j) = some (.int .u8 (bs.getD j 0)) := by
  obtain ⟨A, c', e, _, h2⟩ := h
  injection e with e1 e2 e3
  exact h2 a e1.symm j _ (by rw [List.getElem?_map, List.getElem?_eq_getElem hj, List.getD_eq_getElem?_getD, List.getElem?_eq_getElem hj]; rfl)
theorem RdB.shape {w : World} {v : Value} {bs : List Int} (h : RdB w v bs) : (v = .slice none 0 0 ∧ bs = []) ∨ ∃ a c, v = .slice (some a) bs.length c := by
  obtain ⟨A, c', e, h1, h2⟩ := h
  cases A with
  | none => obtain ⟨rfl, rfl⟩ := h1 rfl; exact .inl ⟨e, rfl⟩
  | some a => exact .inr ⟨a, c', e⟩
/-- the bit of the program's reckoning -/
theorem prog_bit (x : Nat) (h : x < 4294967296) : bits .xor .u32 ((x : Int) / 2) (bits .and .u32 3988292384 (-(bits .and .u32 (x : Int) 1) % 4294967296)) = (crcBit x : Int) := by
  have h1 : bits .and .u32 (x : Int) 1 = ((x % 2 : Nat) : Int) := by
    have := u32_and_nat x 1 h (by decide)
    rw [show ((1 : Nat) : Int) = 1 from rfl] at this
    rw [this, Nat.and_one_is_mod]
  rw [h1]
  unfold crcBit
  by_cases c : x % 2 = 1
  · rw [if_pos c, c]
    have e : -((1 : Nat) : Int) % 4294967296 = 4294967295 := by decide
    rw [e, show bits .and .u32 3988292384 4294967295 = ((3988292384 : Nat) : Int) by decide]
    rw [show ((x : Int) / 2) = ((x / 2 : Nat) : Int) by omega]
    exact u32_xor_nat (x / 2) 3988292384 (by omega) (by decide)
  · rw [if_neg c, show x % 2 = 0 by omega]
    have e : -((0 : Nat) : Int) % 4294967296 = 0 := by decide
    rw [e, show bits .and .u32 3988292384 0 = ((0 : Nat) : Int) by decide]
    rw [show ((x : Int) / 2) = ((x / 2 : Nat) : Int) by omega]
    rw [u32_xor_nat (x / 2) 0 (by omega) (by decide), Nat.xor_zero]
set_option maxHeartbeats 8000000 in
set_option maxRecDepth 100000 in
theorem sum_calls (w : World) (v : Value) (bs : List Int) (hv : RdB w v bs) (hb : bytes bs) (hl : bs.length ≤ 1000000000) :
    Calls Try.prog 50 #[v] w fun e w' => e = .returned (.int .u32 ((4294967295 ^^^ crcTo 4294967295 bs bs.length : Nat) : Int)) ∧ Below w.heap.size w w' := by
  have HB := Aside0.mk (Below.refl w.heap.size w)
  have V := Aside0.mk hv
  have X := Aside0.mk (fun m => crcTo_lt 4294967295 bs (by decide) hb m)
  have Y := Aside0.mk (bytes_at hb)
  obtain ⟨A, c, rfl⟩ : ∃ A c, v = .slice A bs.length c := by obtain ⟨A, c, e, _⟩ := hv; exact ⟨A, c, e⟩
  clear hv hb
  go_enter Try.func50, Try.ntmps50
  go_wp2
  go_loopg [3, 8] (bs.length + 2) (fun kq v3 v8 w' => ∃ m : Nat, v3 = .int .u32 (crcTo 4294967295 bs m : Nat) ∧ v8 = .int .i64 (m : Int) ∧ m ≤ bs.length ∧ bs.length - m < kq ∧ w' = w)
  case atStart => exact ⟨0, rfl, rfl, Nat.zero_le _, by omega, rfl⟩
  case round =>
    obtain ⟨m, rfl, rfl, hm, hk, rfl⟩ := hrel
    cases gk with
    | zero => omega
    | succ k2 =>
      by_cases c : m < bs.length
      · have q3 : decide ((m : Int) < (bs.length : Int)) = true := decide_eq_true (by omega)
        have q4 : IntKind.i64.wrap ((m : Int) + 1) = (m : Int) + 1 := by rw [IntKind.wrap_i64]; omega
        have hx := X.out m
        have hy := Y.out m
        have hx2 := X.out (m + 1)
        rcases V.out.shape with ⟨e, e2⟩ | ⟨a, c', e⟩
        · rw [e2] at c; simp at c
        injection e with e1 e2 e3
        subst e1
        subst e3
        have ca := V.out.at m c
        obtain ⟨z, hz⟩ : ∃ z, bs.getD m 0 = z := ⟨_, rfl⟩
        obtain ⟨x, hxe⟩ : ∃ x, crcTo 4294967295 bs m = x := ⟨_, rfl⟩
        have hn : crcTo 4294967295 bs (m + 1) = bitsK 8 (x ^^^ z.toNat) := by rw [crcTo, hz, hxe]
        rw [hz] at ca hy
        rw [hxe] at hx
        rw [hxe]
        have q5 : z % 4294967296 = z := by omega
        have q6 : bits .xor .u32 (x : Int) z = ((x ^^^ z.toNat : Nat) : Int) := by
          have := u32_xor_nat x z.toNat hx (by omega)
          rw [show ((z.toNat : Nat) : Int) = z by omega] at this
          exact this
        have hs : x ^^^ z.toNat < 4294967296 := Nat.xor_lt_two_pow (n := 32) hx (by omega)
        have HN := Aside0.mk hn
        clear hn hz hxe hx2
        go_wp2
        obtain ⟨y0, hy0⟩ : ∃ y0, x ^^^ z.toNat = y0 := ⟨_, rfl⟩
        rw [hy0] at hs HN
        rw [hy0]
        clear hy0 q6
        go_loopg [3, 16] 20 (fun kq v3 v16 w' => ∃ j : Nat, v3 = .int .u32 (bitsK j y0 : Nat) ∧ v16 = .int .i64 (j : Int) ∧ j ≤ 8 ∧ j + kq = 20 ∧ w' = wr)
        case atStart => exact ⟨0, rfl, rfl, by omega, rfl, rfl⟩
        case round =>
          obtain ⟨j, rfl, rfl, hj, hjk, rfl⟩ := hrel
          cases gk with
          | zero => omega
          | succ k3 =>
            by_cases cj : j < 8
            · have r3 : decide ((j : Int) < 8) = true := decide_eq_true (by omega)
              have r4 : IntKind.i64.wrap ((j : Int) + 1) = (j : Int) + 1 := by rw [IntKind.wrap_i64]; omega
              have hyb := bitsK_lt j y0 hs
              obtain ⟨y, hye⟩ : ∃ y, bitsK j y0 = y := ⟨_, rfl⟩
              have hyn : bitsK (j + 1) y0 = crcBit y := by rw [bitsK, hye]
              have YN := Aside0.mk hyn
              rw [hye] at hyb
              rw [hye]
              clear hye hyn
              have r5 := prog_bit y hyb
              go_wp2
              go_roundg k3
              case measure => omega
              case rel => exact ⟨j + 1, by rw [YN.out], by simp, by omega, by omega, rfl⟩
            · obtain rfl : j = 8 := by omega
              have r3 : decide (((8 : Nat) : Int) < 8) = false := by decide
              go_wp2
              go_roundg k2
              case measure => omega
              case rel => exact ⟨m + 1, by rw [HN.out], by simp, by omega, by omega, rfl⟩
      · obtain rfl : m = bs.length := by omega
        have q3 : decide ((bs.length : Int) < (bs.length : Int)) = false := decide_eq_false (by omega)
        have hx := X.out bs.length
        have q6 : bits .xor .u32 IntKind.u32.max (crcTo 4294967295 bs bs.length : Nat) = ((4294967295 ^^^ crcTo 4294967295 bs bs.length : Nat) : Int) := by
          have := u32_xor_nat 4294967295 (crcTo 4294967295 bs bs.length) (by decide) hx
          rw [← this]
          rfl
        go_wp2
        go_ret
        exact ⟨rfl, Below.refl _ _⟩
set_option maxHeartbeats 8000000 in
set_option maxRecDepth 100000 in
theorem refsum_calls (w : World) (x0 : Nat) (v : Value) (bs : List Int) (h0 : x0 < 4294967296) (hv : RdB w v bs) (hb : bytes bs) (hl : bs.length ≤ 1000000000) :
    Calls Try.prog 42 #[.int .u32 (x0 : Nat), v] w fun e w' => e = .returned (.int .u32 ((crcTo x0 bs bs.length : Nat) : Int)) ∧ Below w.heap.size w w' := by
  have HB := Aside0.mk (Below.refl w.heap.size w)
  have V := Aside0.mk hv
  have X := Aside0.mk (fun m => crcTo_lt x0 bs h0 hb m)
  have Y := Aside0.mk (bytes_at hb)
  obtain ⟨A, c, rfl⟩ : ∃ A c, v = .slice A bs.length c := by obtain ⟨A, c, e, _⟩ := hv; exact ⟨A, c, e⟩
  clear hv hb
  go_enter Try.func42, Try.ntmps42
  go_wp2
  go_loopg [0, 5] (bs.length + 2) (fun kq v3 v8 w' => ∃ m : Nat, v3 = .int .u32 (crcTo x0 bs m : Nat) ∧ v8 = .int .i64 (m : Int) ∧ m ≤ bs.length ∧ bs.length - m < kq ∧ w' = w)
  case atStart => exact ⟨0, rfl, rfl, Nat.zero_le _, by omega, rfl⟩
  case round =>
    obtain ⟨m, rfl, rfl, hm, hk, rfl⟩ := hrel
    cases gk with
    | zero => omega
    | succ k2 =>
      by_cases c : m < bs.length
      · have q3 : decide ((m : Int) < (bs.length : Int)) = true := decide_eq_true (by omega)
        have q4 : IntKind.i64.wrap ((m : Int) + 1) = (m : Int) + 1 := by rw [IntKind.wrap_i64]; omega
        have hx := X.out m
        have hy := Y.out m
        have hx2 := X.out (m + 1)
        rcases V.out.shape with ⟨e, e2⟩ | ⟨a, c', e⟩
        · rw [e2] at c; simp at c
        injection e with e1 e2 e3
        subst e1
        subst e3
        have ca := V.out.at m c
        obtain ⟨z, hz⟩ : ∃ z, bs.getD m 0 = z := ⟨_, rfl⟩
        obtain ⟨x, hxe⟩ : ∃ x, crcTo x0 bs m = x := ⟨_, rfl⟩
        have hn : crcTo x0 bs (m + 1) = bitsK 8 (x ^^^ z.toNat) := by rw [crcTo, hz, hxe]
        rw [hz] at ca hy
        rw [hxe] at hx
        rw [hxe]
        have q5 : z % 4294967296 = z := by omega
        have q6 : bits .xor .u32 (x : Int) z = ((x ^^^ z.toNat : Nat) : Int) := by
          have := u32_xor_nat x z.toNat hx (by omega)
          rw [show ((z.toNat : Nat) : Int) = z by omega] at this
          exact this
        have hs : x ^^^ z.toNat < 4294967296 := Nat.xor_lt_two_pow (n := 32) hx (by omega)
        have HN := Aside0.mk hn
        clear hn hz hxe hx2
        go_wp2
        obtain ⟨y0, hy0⟩ : ∃ y0, x ^^^ z.toNat = y0 := ⟨_, rfl⟩
        rw [hy0] at hs HN
        rw [hy0]
        clear hy0 q6
        go_loopg [0, 6] 20 (fun kq v3 v16 w' => ∃ j : Nat, v3 = .int .u32 (bitsK j y0 : Nat) ∧ v16 = .int .i64 (j : Int) ∧ j ≤ 8 ∧ j + kq = 20 ∧ w' = wr)
        case atStart => exact ⟨0, rfl, rfl, by omega, rfl, rfl⟩
        case round =>
          obtain ⟨j, rfl, rfl, hj, hjk, rfl⟩ := hrel
          cases gk with
          | zero => omega
          | succ k3 =>
            by_cases cj : j < 8
            · have r3 : decide ((j : Int) < 8) = true := decide_eq_true (by omega)
              have r4 : IntKind.i64.wrap ((j : Int) + 1) = (j : Int) + 1 := by rw [IntKind.wrap_i64]; omega
              have hyb := bitsK_lt j y0 hs
              obtain ⟨y, hye⟩ : ∃ y, bitsK j y0 = y := ⟨_, rfl⟩
              have hyn : bitsK (j + 1) y0 = crcBit y := by rw [bitsK, hye]
              have YN := Aside0.mk hyn
              rw [hye] at hyb
              rw [hye]
              clear hye hyn
              have r6 : (y : Int).tmod 2 = (y : Int) % 2 := Int.tmod_eq_emod_of_nonneg (by omega)
              have r8 : (y : Int) / 2 % 4294967296 = (y : Int) / 2 := by omega
              by_cases cy : y % 2 = 1
              · have r7 : (y : Int) % 2 = 1 := by omega
                have r5 : bits .xor .u32 ((y : Int) / 2) 3988292384 = (crcBit y : Int) := by
                  unfold crcBit
                  rw [if_pos cy, show ((y : Int) / 2) = ((y / 2 : Nat) : Int) by omega]
                  exact u32_xor_nat (y / 2) 3988292384 (by omega) (by decide)
                go_wp2
                go_roundg k3
                case measure => omega
                case rel => exact ⟨j + 1, by rw [YN.out], by simp, by omega, by omega, rfl⟩
              · have r7 : (y : Int) % 2 = 0 := by omega
                have r5 : (y : Int) / 2 = (crcBit y : Int) := by
                  unfold crcBit
                  rw [if_neg cy]
                  omega
                go_wp2
                go_roundg k3
                case measure => omega
                case rel => exact ⟨j + 1, by rw [YN.out], by simp, by omega, by omega, rfl⟩
            · obtain rfl : j = 8 := by omega
              have r3 : decide (((8 : Nat) : Int) < 8) = false := by decide
              go_wp2
              go_roundg k2
              case measure => omega
              case rel => exact ⟨m + 1, by rw [HN.out], by simp, by omega, by omega, rfl⟩
      · obtain rfl : m = bs.length := by omega
        have q3 : decide ((bs.length : Int) < (bs.length : Int)) = false := decide_eq_false (by omega)
        have hx := X.out bs.length
        go_wp2
        go_ret
        exact ⟨rfl, Below.refl _ _⟩
end Go.Proofs.Ytlfckoeolcnniaa.Net
