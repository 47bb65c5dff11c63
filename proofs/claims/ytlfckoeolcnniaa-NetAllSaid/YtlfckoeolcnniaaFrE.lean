/- Walks of the reader: Num. -/
import Derived.Test.YtlfckoeolcnniaaFrD
namespace Go.Proofs.Ytlfckoeolcnniaa.Net
open Go.RowKit Go.Proofs.YtlfckoeolcnniaaW.PrintWords Go.Proofs.YtlfckoeolcnniaaW.PrintLast Go.Proofs.YtlfckoeolcnniaaW.PrintMore
set_option linter.unusedVariables false
set_option linter.unusedSimpArgs false
/-- bytes as a number, the lowest first -/
def un : List Int → Nat
  | [] => 0
  | x :: r => x.toNat + 256 * un r
theorem un_snoc (x : Int) : ∀ l : List Int, un (l ++ [x]) = un l + x.toNat * 256 ^ l.length
  | [] => by simp [un]
  | y :: r => by rw [List.cons_append, un, un, un_snoc x r, List.length_cons, Nat.pow_succ, Nat.mul_add, Nat.add_assoc, ← Nat.mul_assoc, Nat.mul_comm 256 x.toNat, Nat.mul_assoc x.toNat, Nat.mul_comm 256 (256 ^ _)]
theorem un_lt : ∀ l : List Int, bytes l → un l < 256 ^ l.length
  | [], _ => by simp [un]
  | x :: r, h => by
    have h1 := h x (by simp)
    have h2 := un_lt r (fun y hy => h y (by simp [hy]))
    rw [un, List.length_cons, Nat.pow_succ]
    omega
theorem un_take {l : List Int} (m : Nat) (h : m < l.length) : un (l.take (m + 1)) = un (l.take m) + (l.getD m 0).toNat * 256 ^ m := by
  rw [List.take_add_one, List.getElem?_eq_getElem h, List.getD_eq_getElem?_getD, List.getElem?_eq_getElem h]
  show un (List.take m l ++ [l[m]]) = _
  rw [un_snoc, List.length_take, Nat.min_eq_left (by omega)]
  rfl
theorem or_byte (n c m : Nat) (hn : n < 2 ^ (8 * m)) : n ||| (c * 2 ^ (8 * m)) = n + c * 256 ^ m := by
  rw [show (256 : Nat) = 2 ^ 8 from rfl, ← Nat.pow_mul, Nat.or_comm, Nat.mul_comm c, ← Nat.two_pow_add_eq_or_of_lt hn, Nat.add_comm]
theorem bytes_take {l : List Int} (h : bytes l) (m : Nat) : bytes (l.take m) := fun x hx => h x (List.mem_of_mem_take hx)
theorem bytes_drop {l : List Int} (h : bytes l) (m : Nat) : bytes (l.drop m) := fun x hx => h x (List.mem_of_mem_drop hx)
theorem num_step (y m : Nat) (z : Int) (hz : 0 ≤ z ∧ z < 256) (hm : m < 8) (hy : y < 256 ^ m) : bits .or .u64 (y : Int) (IntKind.u64.wrap (z * 2 ^ (8 * m))) = ((y + z.toNat * 256 ^ m : Nat) : Int) := by
  obtain ⟨c, rfl⟩ := Int.eq_ofNat_of_zero_le hz.1
  have hc : c < 256 := by omega
  have e256 : (256 : Nat) ^ m = 2 ^ (8 * m) := by rw [show (256 : Nat) = 2 ^ 8 from rfl, ← Nat.pow_mul]
  have hp : (2 : Nat) ^ (8 * m) ≤ 2 ^ 56 := Nat.pow_le_pow_right (by decide) (by omega)
  have hlt : c * 2 ^ (8 * m) < 18446744073709551616 := by
    have : c * 2 ^ (8 * m) ≤ 255 * 2 ^ 56 := Nat.mul_le_mul (by omega) hp
    omega
  have e : ((c : Int) * 2 ^ (8 * m)) = ((c * 2 ^ (8 * m) : Nat) : Int) := by simp
  rw [e, show IntKind.u64.wrap ((c * 2 ^ (8 * m) : Nat) : Int) = ((c * 2 ^ (8 * m) : Nat) : Int) % 18446744073709551616 from rfl, show ((c * 2 ^ (8 * m) : Nat) : Int) % 18446744073709551616 = ((c * 2 ^ (8 * m) : Nat) : Int) by omega]
  rw [e256] at hy
  have hyl : y < 18446744073709551616 := by omega
  rw [u64_or_nat y _ hyl hlt, or_byte y c m hy]
  rfl
set_option maxHeartbeats 8000000 in
set_option maxRecDepth 100000 in
theorem num_ok (w w0 : World) (r n c at_ k : Nat) (A : Option Addr) (bs : List Int) (h : Rdr w r (.slice A n c) at_ false) (hB : RdB w0 (.slice A n c) bs) (hb : bytes bs) (hk : at_ + k ≤ n) (hn : n ≤ 1000000000) (hc : n ≤ c) (hk8 : k ≤ 8) (hw : Below w0.heap.size w0 w) (hr : w0.heap.size ≤ r) :
    Calls Try.prog 44 #[.pointer (some ⟨r, 0, none⟩), .int .i64 (k : Nat)] w fun e w' => e = .returned (.int .u64 (un ((bs.drop at_).take k) : Nat)) ∧ Rdr w' r (.slice A n c) (at_ + k) false ∧ KS w w' (fun i => i = r) := by
  obtain ⟨l, hl⟩ : ∃ l, (bs.drop at_).take k = l := ⟨_, rfl⟩
  have hln : l.length = k := by
    obtain ⟨A', c', e, _⟩ := hB
    injection e with _ e2
    rw [← hl, List.length_take, List.length_drop]
    omega
  have hlb : bytes l := hl ▸ bytes_take (bytes_drop hb _) _
  have X := Aside0.mk h
  have W := Aside0.mk hw
  have T := Aside0.mk (take_ok w w0 r n c at_ k A bs h hB hk hn hc)
  have Y := Aside0.mk (bytes_at hlb)
  have U := Aside0.mk (fun m => un_lt (l.take m) (bytes_take hlb m))
  rw [hl] at T
  rw [hl]
  have LN := Aside0.mk hln
  clear h hB hb hl hw hlb hln
  go_enter Try.func44, Try.ntmps44
  go_wp2_with (first
    | ((with_reducible refine gate_callee (f := 43) rfl ?_); refine goesL_ (some 10) rfl rfl Try.func43 (by kernel_rfl) rfl #[.pointer (some ⟨r, 0, none⟩), .int .i64 (k : Nat)] rfl (by (try simp only [List.map_toArray, List.map_cons, List.map_nil]); first | done | rfl) ?_; (with_reducible refine T.out.mono ?_); rintro e w1 ⟨v1, rfl, ⟨hR, _⟩, hX, hK⟩; refine ⟨_, rfl, ?_⟩; have R1 : Aside0 (RdB w1 v1 l) := ⟨hR.below (below_ks W.out hK (fun i hi => by rw [hi]; exact hr))⟩; have X1 := Aside0.mk hX; have K1 := Aside0.mk hK; obtain ⟨A1, c1, rfl⟩ : ∃ A c, v1 = .slice A k c := (by obtain ⟨A, c, e, _⟩ := hR; rw [LN.out] at e; exact ⟨A, c, e⟩); clear hR hX hK))
  go_loopg [5, 12] 20 (fun kq v5 v12 w' => ∃ m : Nat, v12 = .int .i64 (m : Nat) ∧ v5 = .int .u64 (un (l.take m) : Nat) ∧ m ≤ k ∧ k - m < kq ∧ w' = w1)
  case atStart => exact ⟨0, rfl, rfl, Nat.zero_le _, by omega, rfl⟩
  case round =>
    obtain ⟨m, rfl, rfl, hm, hkq, rfl⟩ := hrel
    cases gk with
    | zero => omega
    | succ k2 =>
      by_cases c1 : m < k
      · have q3 : decide ((m : Int) < (k : Int)) = true := decide_eq_true (by omega)
        have q4 : IntKind.i64.wrap ((m : Int) + 1) = (m : Int) + 1 := by rw [IntKind.wrap_i64]; omega
        have ha : ∃ a, A1 = some a ∧ wr.cell? (a.add m) = some (.int .u8 (l.getD m 0)) := by
          obtain ⟨A', c', e, h1, h2⟩ := R1.out
          injection e with e1 _ _
          subst e1
          cases A1 with
          | none => rw [(h1 rfl).1] at LN; have := LN.out; simp at this; omega
          | some a => exact ⟨a, rfl, h2 a rfl m _ (by rw [List.getElem?_map, List.getElem?_eq_getElem (by rw [LN.out]; exact c1), List.getD_eq_getElem?_getD, List.getElem?_eq_getElem (by rw [LN.out]; exact c1)]; rfl)⟩
        obtain ⟨a, rfl, ca⟩ := ha
        have hy := Y.out m
        obtain ⟨z, hz⟩ : ∃ z, l.getD m 0 = z := ⟨_, rfl⟩
        obtain ⟨y, hyy⟩ : ∃ y, un (l.take m) = y := ⟨_, rfl⟩
        have hlt := U.out m
        rw [List.length_take, LN.out, Nat.min_eq_left hm, hyy] at hlt
        have hn := un_take m (l := l) (by rw [LN.out]; exact c1)
        rw [hz, hyy] at hn
        rw [hz] at ca hy
        rw [hyy]
        have qb := num_step y m z hy (by omega) hlt
        rw [← hn] at qb
        have QB := Aside0.mk qb
        clear hlt hn hyy hz
        go_wp2
        go_roundg k2
        case measure => omega
        case rel => exact ⟨m + 1, by simp, by first | rfl | rw [QB.out], by omega, by omega, rfl⟩
      · obtain rfl : m = k := by omega
        have q3 : decide ((m : Int) < (m : Int)) = false := decide_eq_false (by omega)
        have e : l.take m = l := by rw [← LN.out, List.take_length]
        go_wp2
        go_ret
        exact ⟨by rw [e]; rfl, X1.out, K1.out⟩
theorem num_no (w : World) (r n c at_ : Nat) (b : Bool) (A : Option Addr) (k : Nat) (h : Rdr w r (.slice A n c) at_ b) (hk : b = true ∨ n < at_ + k) (ha : at_ ≤ n) (hn : n ≤ 1000000000) :
    Calls Try.prog 44 #[.pointer (some ⟨r, 0, none⟩), .int .i64 (k : Nat)] w fun e w' => e = .returned (.int .u64 0) ∧ Rdr w' r (.slice A n c) at_ true ∧ KS w w' (fun i => i = r) := by
  have T : Aside0 (Calls Try.prog 43 #[.pointer (some ⟨r, 0, none⟩), .int .i64 (k : Nat)] w fun e w' => e = .returned (.slice none 0 0) ∧ Rdr w' r (.slice A n c) at_ true ∧ KS w w' (fun i => i = r)) := by
    cases b with
    | true => exact ⟨take_bad w r n c at_ A k h⟩
    | false => exact ⟨take_no w r n c at_ A k h (by rcases hk with h | h; cases h; omega) ha hn⟩
  clear h hk
  go_enter Try.func44, Try.ntmps44
  go_wp2_with (first
    | ((with_reducible refine gate_callee (f := 43) rfl ?_); refine goesL_ (some 10) rfl rfl Try.func43 (by kernel_rfl) rfl #[.pointer (some ⟨r, 0, none⟩), .int .i64 (k : Nat)] rfl (by (try simp only [List.map_toArray, List.map_cons, List.map_nil]); first | done | rfl) ?_; (with_reducible refine T.out.mono ?_); rintro e w1 ⟨rfl, hX, hK⟩; refine ⟨_, rfl, ?_⟩; have X1 := Aside0.mk hX; have K1 := Aside0.mk hK; clear hX hK))
  go_loopg [5, 12] 2 (fun kq v5 v12 w' => v12 = .int .i64 0 ∧ v5 = .int .u64 0 ∧ w' = w1)
  case atStart => exact ⟨rfl, rfl, rfl⟩
  case round =>
    obtain ⟨rfl, rfl, rfl⟩ := hrel
    go_wp2
    go_ret
    exact ⟨rfl, X1.out, K1.out⟩
end Go.Proofs.Ytlfckoeolcnniaa.Net
