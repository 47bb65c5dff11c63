/- Walks of frame: Put, sum, Frame; the reference's four, Frame. -/
import Derived.Test.YtlfckoeolcnniaaFrA
import Derived.Maps.AppendAt
namespace Go.Proofs.Ytlfckoeolcnniaa.Net
open Go.RowKit Go.Proofs.YtlfckoeolcnniaaW.PrintWords Go.Proofs.YtlfckoeolcnniaaW.PrintLast Go.Proofs.YtlfckoeolcnniaaW.PrintMore
set_option linter.unusedVariables false
set_option linter.unusedSimpArgs false
/-- the lowest k bytes of a number -/
def le (n : Nat) : Nat → List Int
  | 0 => []
  | k + 1 => le n k ++ [(n : Int) / 2 ^ (8 * k) % 256]
theorem le_len (n : Nat) : ∀ k, (le n k).length = k
  | 0 => rfl
  | k + 1 => by rw [le, List.length_append, le_len n k]; rfl
/-- an own row that grew from another one -/
def From (w : World) (v v' : Value) : Prop := v'.ownBlock = v.ownBlock ∨ ∃ k, v'.ownBlock = some k ∧ w.heap.size ≤ k
def OwnS (v : Value) : Nat → Prop := fun k => v.ownBlock = some k
theorem le_byte (n : Nat) (k : Nat) : (0 : Int) ≤ (n : Int) / 2 ^ (8 * k) % 256 ∧ (n : Int) / 2 ^ (8 * k) % 256 < 256 := by omega
theorem le_bytes (n : Nat) : ∀ k, bytes (le n k)
  | 0 => by intro x hx; simp [le] at hx
  | k + 1 => by
    intro x hx
    rw [le, List.mem_append, List.mem_singleton] at hx
    rcases hx with h | rfl
    · exact le_bytes n k x h
    · exact le_byte n k
theorem le_add1 (a b m : Nat) (h : a + b ≤ m) : a + b ≤ m := h
/-- an append onto an own row: what is so behind it -/
theorem put_more {w wr w1 : World} {base : Nat} {v0 v v' : Value} {bs : List Int} {x : Int} {o : Obj} (K : KS w wr (OwnS v0)) (F : From w v0 v) {m : Nat} {ob : Option Nat} (hm : m = bs.length) (hown : w1.ownsRow base 5 1 v' (m + 1) (bs.map (Value.int .u8) ++ [.int .u8 x])) (hgrow : (wr.alloc o).grownBy w1 ob) (hat : v'.ownBlock = ob ∨ v'.ownBlock = some (wr.heap.size + 1)) (hob : ob = v.ownBlock) :
    HasB w1 base v' (bs ++ [x]) ∧ KS w w1 (OwnS v0) ∧ From w v0 v' := by
  subst hm
  subst hob
  refine ⟨?_, KS.of_grown hgrow (K.alloc o) ?_, ?_⟩
  · show w1.ownsRow base 5 1 v' (bs ++ [x]).length ((bs ++ [x]).map (Value.int .u8))
    rw [List.map_append, List.length_append]
    exact hown
  · intro k hk
    rcases F with h | ⟨k', h, hl⟩
    · exact .inl (h.symm.trans hk)
    · rw [h] at hk
      injection hk with hk
      exact .inr (hk ▸ hl)
  · rcases hat with h | h
    · rcases F with h' | ⟨k', h', hl⟩
      · exact .inl (h.trans h')
      · exact .inr ⟨k', h.trans h', hl⟩
    · exact .inr ⟨_, h, Nat.le_trans K.k.1 (Nat.le_succ _)⟩
set_option maxHeartbeats 8000000 in
set_option maxRecDepth 100000 in
theorem put_calls (w : World) (base : Nat) (v : Value) (bs : List Int) (n : Nat) (size : Nat) (hv : HasB w base v bs) (hb : base ≤ w.heap.size) (hn : n < 18446744073709551616) (hs : size ≤ 8) (hl : bs.length ≤ 1000000000) :
    Calls Try.prog 39 #[v, .int .u64 (n : Nat), .int .i64 (size : Nat)] w fun e w' => ∃ v', e = .returned v' ∧ HasB w' base v' (bs ++ le n size) ∧ KS w w' (OwnS v) ∧ From w v v' := by
  obtain ⟨i0, hi, hz0, hz1, hz2⟩ := info_parts info5
  have V := Aside0.mk hv
  obtain ⟨A, c, rfl⟩ := own_shape hv
  clear hv
  go_enter Try.func39, Try.ntmps39
  go_wp2
  go_loopg [0, 7, 9] 20 (fun kq v0 v7 v9 w' => ∃ (i : Nat), v9 = .int .i64 (i : Nat) ∧ i ≤ size ∧ size - i < kq ∧ Aside0 (HasB w' base v0 (bs ++ le n i)) ∧ Aside0 (KS w w' (OwnS (.slice A bs.length c))) ∧ Aside0 (From w (.slice A bs.length c) v0))
  case atStart => exact ⟨0, rfl, Nat.zero_le _, by omega, ⟨by rw [le, List.append_nil]; exact V.out⟩, ⟨KS.refl _ _⟩, ⟨.inl rfl⟩⟩
  case round =>
    obtain ⟨i, rfl, hi', hk, H, K, F⟩ := hrel
    cases gk with
    | zero => omega
    | succ k2 =>
      by_cases c1 : i < size
      · have q3 : decide ((i : Int) < (size : Int)) = true := decide_eq_true (by omega)
        obtain ⟨A0, c0, rfl⟩ := own_shape H.out
        have hl2 : (bs ++ le n i).length = bs.length + i := by rw [List.length_append, le_len]
        have hsz : w.heap.size ≤ wr.heap.size := K.out.k.1
        go_wp2_with (at_builtin; refine wpList_append_own_at _ rfl _ _ 27 rfl base 5 i0 (.int .u8 0) 1 1 Try.underlying27 hi hz0 hz1 hz2 rfl (by decide) _ _ _ rfl (H.out.alloc _) ⟨wr.heap.size, 0, none⟩ 1 1 [.int .u8 ((n : Int) / 2 ^ (8 * i) % 256)] rfl rfl (cell_one_new _ _ _) (by intro u hu; simp at hu; subst hu; rfl) ?q4 ?q5 ?q6 ?_)
        case q4 => unfold maxLen; omega
        case q5 => omega
        case q6 => simp; omega
        intro v' w1 hown hgrow _ hat
        have R := Aside0.mk (put_more K.out F.out (m := bs.length + i) (base := base) (v' := v') (x := (n : Int) / 2 ^ (8 * i) % 256) hl2.symm (by rw [List.map_append, List.append_assoc]; exact hown) hgrow hat (by rw [hl2]))
        clear hown hgrow hat hl2
        go_wp2
        go_roundg k2
        case measure => omega
        case rel => exact ⟨i + 1, by simp, by omega, by omega, ⟨by rw [le, ← List.append_assoc]; exact R.out.1⟩, ⟨R.out.2.1⟩, ⟨R.out.2.2⟩⟩
      · obtain rfl : i = size := by omega
        clear c1
        have q3 : decide ((i : Int) < (i : Int)) = false := decide_eq_false (by omega)
        go_wp2
        go_ret
        exact ⟨_, rfl, H.out, K.out, F.out⟩

theorem RdB.ints {w : World} {v : Value} {bs : List Int} (h : RdB w v bs) (hl : bs.length ≤ 1000000000) : ∃ A c, v = .slice A bs.length c ∧ ReadsInt w .u8 A bs.length bs := by
  obtain ⟨A, c, e, h1, h2⟩ := h
  refine ⟨A, c, e, rfl, by omega, fun hn => ?_⟩
  cases A with
  | none => rw [(h1 rfl).1] at hn; simp at hn
  | some a => exact ⟨a, rfl, fun j hj => h2 a rfl j _ (by rw [List.getElem?_map, List.getElem?_eq_getElem hj, List.getD_eq_getElem?_getD, List.getElem?_eq_getElem hj]; rfl)⟩
theorem bytes_app {l r : List Int} (h : bytes l) (h' : bytes r) : bytes (l ++ r) := fun x hx => (List.mem_append.1 hx).elim (h x) (h' x)
/-- the CRC of bytes -/
def crc (bs : List Int) : Nat := 4294967295 ^^^ crcTo 4294967295 bs bs.length
theorem crc_lt (bs : List Int) (hb : bytes bs) : crc bs < 4294967296 := Nat.xor_lt_two_pow (n := 32) (by decide) (crcTo_lt _ bs (by decide) hb _)
theorem crc_calls (w : World) (v : Value) (bs : List Int) (hv : RdB w v bs) (hb : bytes bs) (hl : bs.length ≤ 1000000000) :
    Calls Try.prog 50 #[v] w fun e w' => e = .returned (.int .u32 (crc bs : Nat)) ∧ Below w.heap.size w w' := sum_calls w v bs hv hb hl
theorem wrap_crc (n : Nat) (h : n < 4294967296) : IntKind.u64.wrap (n : Int) = (n : Int) := by rw [show IntKind.u64.wrap (n : Int) = (n : Int) % 18446744073709551616 from rfl]; omega
theorem info5b : (Try.prog.info? 5).map (fun i => (i.zero, i.size, i.bytes)) = some (some (.int .u8 0), 1, 1) := info5
theorem ReadsInt.alloc' {w : World} {k : IntKind} {A : Option Addr} {n : Nat} {xs : List Int} (h : ReadsInt w k A n xs) (o : Obj) : ReadsInt (w.alloc o) k A n xs := h.below (below_alloc (Below.refl _ _) o)
set_option maxHeartbeats 8000000 in
set_option maxRecDepth 100000 in
theorem fsum_calls (w : World) (vl vb : Value) (ls bs : List Int) (h1 : RdB w vl ls) (h2 : RdB w vb bs) (b1 : bytes ls) (b2 : bytes bs) (l1 : ls.length ≤ 1000) (l2 : bs.length ≤ 100000000) :
    Calls Try.prog 40 #[vl, vb] w fun e w' => e = .returned (.int .u64 (crc (ls ++ bs) : Nat)) ∧ Below w.heap.size w w' := by
  have HB := Aside0.mk (Below.refl w.heap.size w)
  obtain ⟨A1, c1, rfl, R1⟩ := h1.ints (by omega)
  obtain ⟨A2, c2, rfl, R2⟩ := h2.ints (by omega)
  have R1 := Aside0.mk R1
  have R2 := Aside0.mk R2
  have hbb := Aside0.mk (bytes_app b1 b2)
  obtain ⟨C, hC⟩ : ∃ C, crc (ls ++ bs) = C := ⟨_, rfl⟩
  have hw : IntKind.u64.wrap (C : Int) = (C : Int) := wrap_crc C (hC ▸ crc_lt (ls ++ bs) hbb.out)
  have HC := Aside0.mk hC
  rw [hC]
  clear hC
  have hll : (ls ++ bs).length ≤ 1000000000 := by rw [List.length_append]; omega
  have HL := Aside0.mk hll
  clear h1 h2 b1 b2 hll
  go_enter Try.func40, Try.ntmps40
  go_wp2_with (first
    | (at_builtin; refine print_append_row w.heap.size rfl (.const (.slice none 0 0)) (.tmp 5) 27 5 .u8 1 rfl Try.underlying27 info5 (by decide) (.slice none 0 0) [] ls A1 ls.length c1 rfl rfl (own_nil _ _ _ _) R1.out HB.out (Nat.le_refl _) (by simp; omega) ?_; intro v1 w1 hown hb _ _; have O1 := Aside0.mk hown; have B1 := Aside0.mk hb; clear hown hb; obtain ⟨A3, c3, rfl⟩ := own_slice O1.out)
    | (at_builtin; refine print_append_row w.heap.size rfl (.tmp 6) (.tmp 7) 27 5 .u8 1 rfl Try.underlying27 info5 (by decide) (.slice A3 ([] ++ ls).length c3) ([] ++ ls) bs A2 bs.length c2 rfl rfl O1.out (R2.out.below B1.out) B1.out B1.out.size (by simp; omega) ?_; intro v2 w2 hown hb _ _; have O2 := Aside0.mk hown; have B2 := Aside0.mk hb; clear hown hb)
    | ((with_reducible refine gate_callee (f := 50) rfl ?_); refine goesL_ (some 9) rfl rfl Try.func50 (by kernel_rfl) rfl #[v2] rfl (by (try simp only [List.map_toArray, List.map_cons, List.map_nil]); first | done | rfl) ?_; (with_reducible refine (crc_calls _ v2 (ls ++ bs) (RdB.of_has O2.out) hbb.out HL.out).mono ?_); rintro e w3 ⟨rfl, hb3⟩; rw [HC.out]; refine ⟨_, rfl, ?_⟩; have B3 := Aside0.mk (below_then B2.out B2.out.size hb3); clear hb3))
  go_ret
  exact ⟨rfl, B3.out⟩

/-- a record -/
def frm (bs : List Int) : List Int := le bs.length 4 ++ le (crc (le bs.length 4 ++ bs)) 4 ++ bs
theorem frm_len (bs : List Int) : (frm bs).length = bs.length + 8 := by unfold frm; rw [List.length_append, List.length_append, le_len, le_len]; omega
theorem frm_bytes (bs : List Int) (h : bytes bs) : bytes (frm bs) := bytes_app (bytes_app (le_bytes _ _) (le_bytes _ _)) h
theorem put4_calls (w : World) (base : Nat) (v : Value) (bs : List Int) (n : Nat) (hv : HasB w base v bs) (hb : base ≤ w.heap.size) (hn : n < 18446744073709551616) (hl : bs.length ≤ 1000000000) :
    Calls Try.prog 39 #[v, .int .u64 (n : Nat), .int .i64 4] w fun e w' => ∃ v', e = .returned v' ∧ HasB w' base v' (bs ++ le n 4) ∧ KS w w' (OwnS v) ∧ From w v v' := put_calls w base v bs n 4 hv hb hn (by decide) hl
set_option maxHeartbeats 8000000 in
set_option maxRecDepth 100000 in
theorem frame_calls (w : World) (vb : Value) (bs : List Int) (h : RdB w vb bs) (hb : bytes bs) (hl : bs.length ≤ 4194304) :
    Calls Try.prog 22 #[vb] w fun e w' => ∃ v', e = .returned v' ∧ HasB w' w.heap.size v' (frm bs) ∧ Below w.heap.size w w' := by
  have HB := Aside0.mk (Below.refl w.heap.size w)
  obtain ⟨A1, c1, rfl, R1⟩ := h.ints (by omega)
  have R1 := Aside0.mk R1
  have RB := Aside0.mk h
  have hbb := Aside0.mk hb
  have q1 : decide ((4194304 : Int) < (bs.length : Int)) = false := decide_eq_false (by omega)
  obtain ⟨C, hC⟩ : ∃ C, crc (le bs.length 4 ++ bs) = C := ⟨_, rfl⟩
  have hCl : C < 4294967296 := hC ▸ crc_lt _ (bytes_app (le_bytes _ _) hb)
  have HC := Aside0.mk hC
  clear h hb hC
  go_enter Try.func22, Try.ntmps22
  go_wp2_with (first
    | ((with_reducible refine gate_callee (f := 39) rfl ?_); refine goesL_ (some 10) rfl rfl Try.func39 (by kernel_rfl) rfl #[.slice none 0 0, .int .u64 (bs.length : Nat), .int .i64 4] rfl (by (try simp only [List.map_toArray, List.map_cons, List.map_nil]); first | done | rfl) ?_; (with_reducible refine (put4_calls _ w.heap.size (.slice none 0 0) [] bs.length (own_nil _ _ _ _) (Nat.le_refl _) (by omega) (by simp)).mono ?_); rintro e w1 ⟨v1, rfl, hH, hK, _⟩; refine ⟨_, rfl, ?_⟩; have H1 : Aside0 (HasB w1 w.heap.size v1 (le bs.length 4)) := ⟨hH⟩; have B1 := Aside0.mk (below_ks HB.out hK (fun k h => nomatch h)); clear hH hK)
    | ((with_reducible refine gate_callee (f := 40) rfl ?_); refine goesL_ (some 14) rfl rfl Try.func40 (by kernel_rfl) rfl #[v1, .slice A1 bs.length c1] rfl (by (try simp only [List.map_toArray, List.map_cons, List.map_nil]); first | done | rfl) ?_; (with_reducible refine (fsum_calls _ v1 _ (le bs.length 4) bs (RdB.of_has H1.out) (RB.out.below B1.out) (le_bytes _ _) hbb.out (by rw [le_len]; decide) (by omega)).mono ?_); rintro e w2 ⟨rfl, hb2⟩; rw [HC.out]; refine ⟨_, rfl, ?_⟩; have H2 := Aside0.mk (pw_own_below H1.out hb2); have B2 := Aside0.mk (below_then B1.out B1.out.size hb2); clear hb2)
    | ((with_reducible refine gate_callee (f := 39) rfl ?_); refine goesL_ (some 15) rfl rfl Try.func39 (by kernel_rfl) rfl #[v1, .int .u64 (C : Nat), .int .i64 4] rfl (by (try simp only [List.map_toArray, List.map_cons, List.map_nil]); first | done | rfl) ?_; (with_reducible refine (put4_calls _ w.heap.size v1 (le bs.length 4) C H2.out B2.out.size (by omega) (by rw [le_len]; decide)).mono ?_); rintro e w3 ⟨v3, rfl, hH, hK, _⟩; refine ⟨_, rfl, ?_⟩; have H3 := Aside0.mk hH; have B3 := Aside0.mk (below_ks B2.out hK (own_base H2.out)); clear hH hK; obtain ⟨A3, c3, rfl⟩ := own_slice H3.out)
    | (at_builtin; refine print_append_row w.heap.size rfl (.tmp 15) (.tmp 16) 27 5 .u8 1 rfl Try.underlying27 info5 (by decide) _ _ bs A1 bs.length c1 rfl rfl H3.out (R1.out.below B3.out) B3.out B3.out.size (by rw [List.length_append, le_len, le_len]; omega) ?_; intro v4 w4 hown hb _ _; have O4 := Aside0.mk hown; have B4 := Aside0.mk hb; clear hown hb))
  go_ret
  exact ⟨_, rfl, by unfold frm; rw [HC.out]; exact O4.out, B4.out⟩
end Go.Proofs.Ytlfckoeolcnniaa.Net
