/- Walks of the reference's records: four, Frame. -/
import Derived.Test.YtlfckoeolcnniaaFrB
namespace Go.Proofs.Ytlfckoeolcnniaa.Net
open Go.RowKit Go.Proofs.YtlfckoeolcnniaaW.PrintWords Go.Proofs.YtlfckoeolcnniaaW.PrintLast Go.Proofs.YtlfckoeolcnniaaW.PrintMore
set_option linter.unusedVariables false
set_option linter.unusedSimpArgs false
theorem crcTo_pre (x : Nat) (l b : List Int) : ∀ m, m ≤ l.length → crcTo x (l ++ b) m = crcTo x l m
  | 0, _ => rfl
  | m + 1, h => by
    rw [crcTo, crcTo, crcTo_pre x l b m (by omega)]
    rw [List.getD_eq_getElem?_getD, List.getD_eq_getElem?_getD, List.getElem?_append_left (by omega)]
theorem crcTo_app (x : Nat) (l b : List Int) : ∀ k, crcTo x (l ++ b) (l.length + k) = crcTo (crcTo x l l.length) b k
  | 0 => crcTo_pre x l b _ (Nat.le_refl _)
  | k + 1 => by
    rw [← Nat.add_assoc, crcTo, crcTo, crcTo_app x l b k]
    rw [List.getD_eq_getElem?_getD, List.getD_eq_getElem?_getD, List.getElem?_append_right (by omega), show l.length + k - l.length = k by omega]
theorem le4 (n : Nat) : le n 4 = [(n : Int) % 256, (n : Int) / 256 % 256, (n : Int) / 65536 % 256, (n : Int) / 16777216 % 256] := by
  simp [le]
set_option maxHeartbeats 8000000 in
set_option maxRecDepth 100000 in
theorem four_calls (w : World) (n : Nat) (hn : n < 4294967296) :
    Calls Try.prog 41 #[.int .u32 (n : Nat)] w fun e w' => ∃ v', e = .returned v' ∧ HasB w' w.heap.size v' (le n 4) ∧ Below w.heap.size w w' := by
  have HB := Aside0.mk (Below.refl w.heap.size w)
  go_enter Try.func41, Try.ntmps41
  go_wp2
  go_ret
  refine ⟨_, rfl, ?_, below_alloc (Below.refl _ _) _⟩
  have e : le n 4 = [(n : Int) % 256, (n : Int) / 256 % 256, (n : Int) / 65536 % 256, (n : Int) / 16777216] := by
    rw [le4, show (n : Int) / 16777216 % 256 = (n : Int) / 16777216 by omega]
  rw [e]
  exact own_lit w w.heap.size 5 .u8 [(n : Int) % 256, (n : Int) / 256 % 256, (n : Int) / 65536 % 256, (n : Int) / 16777216] (Nat.le_refl _) (by simp)
theorem refsum0_calls (w : World) (v : Value) (bs : List Int) (hv : RdB w v bs) (hb : bytes bs) (hl : bs.length ≤ 1000000000) :
    Calls Try.prog 42 #[.int .u32 4294967295, v] w fun e w' => e = .returned (.int .u32 ((crcTo 4294967295 bs bs.length : Nat) : Int)) ∧ Below w.heap.size w w' := refsum_calls w 4294967295 v bs (by decide) hv hb hl
theorem xor_crc (n : Nat) (h : n < 4294967296) : bits .xor .u32 IntKind.u32.max (n : Int) = ((4294967295 ^^^ n : Nat) : Int) := by
  have := u32_xor_nat 4294967295 n (by decide) h
  rw [← this]
  rfl
set_option maxHeartbeats 8000000 in
set_option maxRecDepth 100000 in
theorem rframe_calls (w : World) (vb : Value) (bs : List Int) (h : RdB w vb bs) (hb : bytes bs) (hl : bs.length ≤ 4194304) :
    Calls Try.prog 23 #[vb] w fun e w' => ∃ v', e = .returned v' ∧ HasB w' w.heap.size v' (frm bs) ∧ Below w.heap.size w w' := by
  have HB := Aside0.mk (Below.refl w.heap.size w)
  obtain ⟨A1, c1, rfl, R1⟩ := h.ints (by omega)
  have R1 := Aside0.mk R1
  have RB := Aside0.mk h
  have hbb := Aside0.mk hb
  obtain ⟨X, hX⟩ : ∃ X, crcTo 4294967295 (le bs.length 4) (le bs.length 4).length = X := ⟨_, rfl⟩
  obtain ⟨Y, hY⟩ : ∃ Y, crcTo X bs bs.length = Y := ⟨_, rfl⟩
  have hXl : X < 4294967296 := hX ▸ crcTo_lt _ _ (by decide) (le_bytes _ _) _
  have hYl : Y < 4294967296 := hY ▸ crcTo_lt _ _ hXl hb _
  have hxx := xor_crc Y hYl
  have hC : crc (le bs.length 4 ++ bs) = 4294967295 ^^^ Y := by unfold crc; rw [List.length_append, crcTo_app, hX, hY]
  obtain ⟨C, hC2⟩ : ∃ C, 4294967295 ^^^ Y = C := ⟨_, rfl⟩
  rw [hC2] at hxx hC
  have hCl : C < 4294967296 := hC ▸ crc_lt _ (bytes_app (le_bytes _ _) hb)
  have HR : Aside0 (bits .xor .u32 (if IntKind.u32.signed = true then -1 else IntKind.u32.max) (Y : Int) = (C : Int)) := ⟨hxx⟩
  have HX := Aside0.mk hX
  have HY := Aside0.mk hY
  have HC := Aside0.mk hC
  clear h hb hC hX hY hC2
  go_enter Try.func23, Try.ntmps23
  go_wp2_with (first
    | ((with_reducible refine gate_callee (f := 41) rfl ?_); refine goesL_ (some 8) rfl rfl Try.func41 (by kernel_rfl) rfl #[.int .u32 (bs.length : Nat)] rfl (by (try simp only [List.map_toArray, List.map_cons, List.map_nil]); first | done | rfl) ?_; (with_reducible refine (four_calls _ bs.length (by omega)).mono ?_); rintro e w1 ⟨v1, rfl, hH, hb⟩; refine ⟨_, rfl, ?_⟩; have H1 := Aside0.mk hH; have B1 := Aside0.mk hb; clear hH hb; obtain ⟨A3, c3, rfl, R3⟩ := (RdB.of_has H1.out).ints (by rw [le_len]; decide); have R3 := Aside0.mk R3)
    | ((with_reducible refine gate_callee (f := 42) rfl ?_); refine goesL_ (some 10) rfl rfl Try.func42 (by kernel_rfl) rfl #[.int .u32 4294967295, .slice A3 (le bs.length 4).length c3] rfl (by (try simp only [List.map_toArray, List.map_cons, List.map_nil]); first | done | rfl) ?_; (with_reducible refine (refsum0_calls _ _ (le bs.length 4) (RdB.of_has H1.out) (le_bytes _ _) (by rw [le_len]; decide)).mono ?_); rintro e w2 ⟨rfl, hb2⟩; rw [HX.out]; refine ⟨_, rfl, ?_⟩; have B2 := Aside0.mk (below_then B1.out B1.out.size hb2); have R4 := Aside0.mk (R3.out.below hb2); clear hb2)
    | ((with_reducible refine gate_callee (f := 42) rfl ?_); refine goesL_ (some 12) rfl rfl Try.func42 (by kernel_rfl) rfl #[.int .u32 (X : Nat), .slice A1 bs.length c1] rfl (by (try simp only [List.map_toArray, List.map_cons, List.map_nil]); first | done | rfl) ?_; (with_reducible refine (refsum_calls _ X _ bs hXl (RB.out.below B2.out) hbb.out (by omega)).mono ?_); rintro e w3 ⟨rfl, hb3⟩; rw [HY.out]; refine ⟨_, rfl, ?_⟩; have B3 := Aside0.mk (below_then B2.out B2.out.size hb3); have R5 := Aside0.mk (R4.out.below hb3); clear hb3)
    | (at_builtin; refine print_append_row w.heap.size rfl (.const (.slice none 0 0)) (.tmp 14) 27 5 .u8 1 rfl Try.underlying27 info5 (by decide) (.slice none 0 0) [] (le bs.length 4) A3 (le bs.length 4).length c3 rfl rfl (own_nil _ _ _ _) R5.out B3.out B3.out.size (by rw [le_len]; decide) ?_; intro v4 w4 hown hb _ _; have O4 := Aside0.mk hown; have B4 := Aside0.mk hb; clear hown hb; obtain ⟨A4, c4, rfl⟩ := own_slice O4.out)
    | ((with_reducible refine gate_callee (f := 41) rfl ?_); refine goesL_ (some 17) rfl rfl Try.func41 (by kernel_rfl) rfl #[.int .u32 (C : Nat)] rfl (by (try simp only [List.map_toArray, List.map_cons, List.map_nil]); first | done | rfl | (show #[Value.int .u32 (bits .xor .u32 (if IntKind.u32.signed = true then -1 else IntKind.u32.max) (Y : Int))] = _; rw [HR.out])) ?_; (with_reducible refine (four_calls _ C hCl).mono ?_); rintro e w5 ⟨v5, rfl, hH, hb⟩; refine ⟨_, rfl, ?_⟩; have H5 := Aside0.mk hH; have O5 := Aside0.mk (pw_own_below O4.out hb); have B5 := Aside0.mk (below_then B4.out B4.out.size hb); clear hH hb; obtain ⟨A5, c5, rfl, R6⟩ := (RdB.of_has H5.out).ints (by rw [le_len]; decide); have R6 := Aside0.mk R6)
    | (at_builtin; refine print_append_row w.heap.size rfl (.tmp 15) (.tmp 17) 27 5 .u8 1 rfl Try.underlying27 info5 (by decide) _ _ (le C 4) A5 (le C 4).length c5 rfl rfl O5.out R6.out B5.out B5.out.size (by rw [List.length_append, le_len, le_len]; decide) ?_; intro v6 w6 hown hb _ _; have O6 := Aside0.mk hown; have B6 := Aside0.mk hb; clear hown hb; obtain ⟨A6, c6, rfl⟩ := own_slice O6.out)
    | (at_builtin; refine print_append_row w.heap.size rfl (.tmp 18) (.tmp 19) 27 5 .u8 1 rfl Try.underlying27 info5 (by decide) _ _ bs A1 bs.length c1 rfl rfl O6.out (R1.out.below B6.out) B6.out B6.out.size (by rw [List.length_append, List.length_append, le_len, le_len]; simp; omega) ?_; intro v7 w7 hown hb _ _; have O7 := Aside0.mk hown; have B7 := Aside0.mk hb; clear hown hb))
  go_ret
  exact ⟨_, rfl, by unfold frm; rw [HC.out]; exact O7.out, B7.out⟩
end Go.Proofs.Ytlfckoeolcnniaa.Net
