/- Walks of frame's laws: Short, begun, FrameBig. -/
import Derived.Test.YtlfckoeolcnniaaFrF
namespace Go.Proofs.Ytlfckoeolcnniaa.Net
open Go.RowKit Go.Proofs.YtlfckoeolcnniaaW.PrintWords Go.Proofs.YtlfckoeolcnniaaW.PrintLast Go.Proofs.YtlfckoeolcnniaaW.PrintMore
set_option linter.unusedVariables false
set_option linter.unusedSimpArgs false
theorem own_cap {w : World} {base : Nat} {e : TypeId} {size : Nat} {v : Value} {n : Nat} {xs : List Value} (h : w.ownsRow base e size v n xs) : ∃ A c, v = .slice A n c ∧ n ≤ c := by
  rcases h.2 with ⟨e, h0⟩ | ⟨g, cap, cur, e, _, _, hl, _⟩
  · exact ⟨_, _, by rw [e, h0], by omega⟩
  · exact ⟨_, _, e, hl⟩
set_option maxHeartbeats 8000000 in
set_option maxRecDepth 100000 in
theorem short_calls (w : World) (n c k : Nat) (A : Option Addr) (bs : List Int) (h : RdB w (.slice A n c) bs) (hl : n ≤ 9223372036854775807) (hc : n ≤ c) (hk : k ≤ 1000) :
    Calls Try.prog 17 #[.slice A n c, .int .i64 (k : Nat)] w fun e w' => ∃ v', e = .returned v' ∧ (RdB w v' (bs.take k) ∧ CapOk v') ∧ w' = w := by
  have hn : n = bs.length := by obtain ⟨_, _, e, _⟩ := h; injection e
  have H := Aside0.mk h
  have HN := Aside0.mk hn
  clear h hn
  by_cases c1 : k < n
  · have d1 : decide ((k : Int) < (n : Int)) = true := decide_eq_true (by omega)
    have b1 : (k : Int) ≤ (c : Int) := by omega
    go_enter Try.func17, Try.ntmps17
    go_wp2
    go_ret
    have hs := H.out.sub (at_ := 0) (k := k) (by omega)
    rw [List.drop_zero, Nat.sub_zero] at hs
    refine ⟨_, rfl, ⟨?_, _, _, _, rfl, by omega⟩, rfl⟩
    have e : Option.map (fun x : Addr => x.add 0) A = A := by cases A <;> simp [Addr.add]
    rw [e] at hs
    exact hs
  · have d1 : decide ((k : Int) < (n : Int)) = false := decide_eq_false (by omega)
    go_enter Try.func17, Try.ntmps17
    go_wp2
    go_ret
    refine ⟨_, rfl, ⟨?_, _, _, _, rfl, hc⟩, rfl⟩
    rw [List.take_of_length_le (by have := HN.out; omega)]
    exact H.out
theorem ab_scan : Scanned (frm [97, 98] ++ [7]) [[97, 98]] 10 := by
  constructor
  · decide +kernel
  · decide +kernel
theorem rdB_lit (w : World) (xs : List Int) (f : Nat × Nat) : RdB (w.alloc (.cells (xs.map (Value.int .u8)).toArray 5 f)) (.slice (some ⟨w.heap.size, 0, none⟩) xs.length xs.length) xs :=
  ⟨_, _, rfl, (fun h => nomatch h), fun a ha j u hu => by
    injection ha with ha
    subst ha
    rw [add0]
    refine (cell_of_row _ w.heap.size j _ 5 _ (blk_new w _)).trans ?_
    simpa using hu⟩
theorem rdB_ab (w : World) : RdB (w.alloc (.cells #[.int .u8 97, .int .u8 98] 5 (2, 3))) (.slice (some ⟨w.heap.size, 0, none⟩) 2 2) [97, 98] := rdB_lit w [97, 98] (2, 3)
theorem run_backR (W : World) (v : Value) (bs : List Int) (h : RdB W v bs) (hbs : bytes bs) : (convert 27 9 v).run Try.prog W = .ok (.string (bstr bs)) W := by
  obtain ⟨A, c, rfl, h1, h2⟩ := h
  cases A with
  | none =>
    obtain ⟨rfl, rfl⟩ := h1 rfl
    exact run_convert_bytes_nil W 27 5 Try.underlying27 Try.underlying5 0 0 9 Try.underlying9
  | some a =>
    have := run_convert_bytes_back (P := Try.prog) W 27 9 5 a c (bs.map (fun x => UInt8.ofNat x.toNat)) Try.underlying27 Try.underlying5 Try.underlying9 (fun j hj => by
      have hj' : j < bs.length := by simpa using hj
      have e := h2 a rfl j (.int .u8 bs[j]) (by rw [List.getElem?_map, List.getElem?_eq_getElem hj']; rfl)
      rw [e]
      have := hbs bs[j] (List.getElem_mem hj')
      simp only [List.getElem_map, UInt8.toNat_ofNat']
      congr 2
      omega)
    rw [List.length_map] at this
    exact this
/-- string(b) -/
theorem back_eventR {ops : Array Oper} {rest : List Oper} {o : Oper} {a : Act} {Q : Exit → Act → World → Prop} {W : World} (hgd : o.guard = none) {x : Operand} (ho : o.op = .convert 27 9 x) (v : Value) (bs : List Int) (hx : a.eval x = v) (hr : RdB W v bs) (hbs : bytes bs)
    (h : wpList Try.prog ops Q rest (a.put o.dst (.string (bstr bs))) W) : wpList Try.prog ops Q (o :: rest) a W := by
  refine Kd.event_run hgd ?_ h
  unfold execOp
  have hc := run_backR W v bs hr hbs
  simp only [ho, hx, Sem.run_bind, Sem.run_pure, Result.andThen_ok, hc]
theorem Rws.cell {w : World} {base : Nat} {v : Value} {G : List (Value × List Int)} (h : Rws w base v G) (i : Nat) (hi : i < G.length) : ∃ g c, v = .slice (some ⟨g, 0, none⟩) G.length c ∧ w.cell? ⟨g, i, none⟩ = some (G[i]).1 := by
  obtain ⟨g, c, e, _⟩ := h.row.form (by omega)
  subst e
  have := h.row.cells (g := g) rfl i (G[i]).1 (by rw [List.getElem?_map, List.getElem?_eq_getElem hi]; rfl)
  rw [add0] at this
  exact ⟨g, c, rfl, this⟩
theorem reads_one (w : World) (x : Int) : ReadsInt (w.alloc (.cells #[.int .u8 x] 5)) .u8 (some ⟨w.heap.size, 0, none⟩) 1 [x] := by
  obtain ⟨A, c, e, h⟩ := (rdB_lit w [x] (0, 0)).ints (by simp)
  injection e with e1 e2 e3
  subst e1
  exact h
theorem ab_facts : (frm [97, 98]).length = 10 ∧ (frm [97, 98])[0]? = some 2 := by decide +kernel
set_option maxHeartbeats 8000000 in
set_option maxRecDepth 100000 in
theorem fbegun_calls (w : World) : Calls Try.prog 21 #[] w fun e w' => e = .returned (.bool true) ∧ Below w.heap.size w w' := by
  have HB := Aside0.mk (Below.refl w.heap.size w)
  have hab : bytes [97, 98] := by intro x hx; simp at hx; omega
  have HA := Aside0.mk hab
  have h7 : bytes (frm [97, 98] ++ [7]) := bytes_app (frm_bytes _ hab) (by intro x hx; simp at hx; omega)
  have hs2 : bstr [97, 98] = ⟨#[97, 98]⟩ := rfl
  have hsc := ab_scan
  have hft := ab_facts
  obtain ⟨F, hF⟩ : ∃ F, frm [97, 98] = F := ⟨_, rfl⟩
  rw [hF] at h7 hsc hft
  obtain ⟨hl10, hf0⟩ := hft
  obtain ⟨Z, hZ⟩ : ∃ Z, F ++ [7] = Z := ⟨_, rfl⟩
  have hZl : Z.length = 11 := by rw [← hZ, List.length_append, hl10]; rfl
  rw [hZ] at h7 hsc
  have H7 := Aside0.mk h7
  have SC := Aside0.mk hsc
  have HF := Aside0.mk hF
  have HZ := Aside0.mk hZ
  have HF0 := Aside0.mk hf0
  have LZ := Aside0.mk hZl
  clear hab h7 hsc hF hZ hf0 hZl
  have kc := fun (w : World) (C : Array Value) (n c : Nat) => Lib.run_convert_bytes_const (P := Try.prog) w 27 5 C n c Try.underlying27 Try.underlying5
  go_enter Try.func21, Try.ntmps21
  go_wp2_with (first
    | ((with_reducible refine gate_callee (f := 22) rfl ?_); refine goesL_ (some 6) rfl rfl Try.func22 (by kernel_rfl) rfl #[.slice (some ⟨w.heap.size, 0, none⟩) 2 2] rfl (by (try simp only [List.map_toArray, List.map_cons, List.map_nil]); first | done | rfl) ?_; (with_reducible refine (frame_calls _ _ [97, 98] (rdB_ab w) HA.out (by decide)).mono ?_); rintro e w1 ⟨v1, rfl, hH, hb⟩; rw [HF.out] at hH; refine ⟨_, rfl, ?_⟩; have B1 := Aside0.mk (below_step (below_alloc HB.out _) hb); have H1 : Aside0 (HasB w1 w.heap.size v1 F) := ⟨own_mono hH (by simp)⟩; clear hH hb; obtain ⟨g1, c1, rfl, hg1, hg2⟩ := H1.out.form (by omega); obtain ⟨A1', c1', e1', R1⟩ := (RdB.of_has H1.out).ints (by omega); injection e1' with e1 e2 e3; subst e1; subst e3; rw [hl10] at R1; have R1 := Aside0.mk R1; clear e2)
    | (at_builtin; refine print_append_row w1.heap.size rfl (.const (.slice none 0 0)) (.tmp 8) 27 5 .u8 1 rfl Try.underlying27 info5 (by decide) (.slice none 0 0) [] F (some ⟨g1, 0, none⟩) 10 c1 (by rfl) (by rfl) (own_nil _ _ _ _) R1.out (Below.refl _ _) (Nat.le_refl _) (by simp) ?_; intro v2 w2 hown hb _ _; have O2 : Aside0 (HasB w2 w1.heap.size v2 F) := ⟨hown⟩; have B2 := Aside0.mk hb; clear hown hb)
    | (at_builtin; refine print_append_row w1.heap.size rfl (.tmp 9) (.tmp 10) 27 5 .u8 1 rfl Try.underlying27 info5 (by decide) v2 F [7] _ 1 1 (by rfl) (by rfl) (pw_own_below O2.out (below_alloc (Below.refl _ _) _)) (reads_one w2 7) (below_alloc B2.out _) (below_alloc B2.out _).size (by omega) ?_; rw [HZ.out]; intro v3 w3 hown hb _ _; have O3 : Aside0 (HasB w3 w1.heap.size v3 Z) := ⟨hown⟩; have B3 := Aside0.mk hb; clear hown hb; obtain ⟨A3, c3, rfl, hc3⟩ := own_cap O3.out)
    | ((with_reducible refine gate_callee (f := 24) rfl ?_); refine goesL_ (some 12) rfl rfl Try.func24 (by kernel_rfl) rfl #[.slice A3 Z.length c3] rfl (by (try simp only [List.map_toArray, List.map_cons, List.map_nil]); first | done | rfl) ?_; (with_reducible refine (scan_calls _ A3 c3 Z (RdB.of_has O3.out) H7.out (by have := LZ.out; omega) hc3).mono ?_); rintro e w4 ⟨v4, G, a, rfl, hG, hS, hb⟩; refine ⟨_, rfl, ?_⟩; obtain ⟨eG, rfl⟩ := SC.out.uniq hS; have R4 := Aside0.mk hG; have B34 := Aside0.mk (below_step B3.out hb); have B4 := Aside0.mk (below_step B1.out B34.out); have H4 := Aside0.mk (pw_own_below H1.out B34.out); clear hG hS hb; obtain ⟨⟨u, bs⟩, rfl⟩ : ∃ x, G = [x] := (by cases G with | nil => simp at eG | cons x r => cases r with | nil => exact ⟨x, rfl⟩ | cons y r => simp at eG); obtain rfl : bs = [97, 98] := (by simpa using eG.symm); clear eG; obtain ⟨g4, c4, rfl, k4⟩ := R4.out.cell 0 (by simp); have f4 := H4.out.cells (g := g1) rfl 0 (.int .u8 2) (by rw [List.getElem?_map, HF0.out]; rfl); rw [add0] at f4; have E4 := Aside0.mk (R4.out.els _ (List.mem_singleton.2 rfl)))
    | ((with_reducible refine gate_dst (N := 33) rfl ?_); (try (refine gate_guard (by rfl) ?_; dsimp only)); refine back_eventR rfl rfl u [97, 98] rfl (RdB.of_has E4.out) HA.out ?_))
  go_ret
  exact ⟨rfl, B4.out⟩
set_option maxHeartbeats 8000000 in
set_option maxRecDepth 100000 in
theorem frame_long (w : World) (n c : Nat) (A : Option Addr) (hl : 4194304 < n) : Calls Try.prog 22 #[.slice A n c] w fun e w' => e = .returned (.slice none 0 0) ∧ w' = w := by
  have q1 : decide ((4194304 : Int) < (n : Int)) = true := decide_eq_true (by omega)
  go_enter Try.func22, Try.ntmps22
  go_wp2
  go_ret
  exact ⟨rfl, rfl⟩
theorem frame_long1 (w : World) (A : Option Addr) : Calls Try.prog 22 #[.slice A 4194305 4194305] w fun e w' => e = .returned (.slice none 0 0) ∧ w' = w := frame_long w 4194305 4194305 A (by decide)
theorem made_row (w : World) (m : Nat) (hm : m * 1 ≤ 281474976710656) : ∃ o : Obj, ((Instr.makeSlice 27 (.int .i64 (m : Int)) (.int .i64 (m : Int))).run Try.prog w = .ok (.slice (some ⟨w.heap.size, 0, none⟩) m m) (w.alloc o)) ∧ RdB (w.alloc o) (.slice (some ⟨w.heap.size, 0, none⟩) m m) (List.replicate m 0) := by
  refine ⟨_, print_make 27 5 .u8 1 Try.underlying27 info5 (by decide) m hm w, ?_⟩
  have h := own_made w w.heap.size 5 .u8 m (Nat.le_refl _) (by omega)
  have := RdB.of_has (bs := List.replicate m 0) (base := w.heap.size) (v := .slice (some ⟨w.heap.size, 0, none⟩) m m) (w := w.alloc (.cells (madeCells #[.int .u8 0] m) 5)) (by show World.ownsRow _ _ _ _ _ (List.replicate m (0 : Int)).length _; rw [List.length_replicate]; exact h)
  exact this
theorem made1 : ∀ w : World, ∃ o : Obj, (Instr.makeSlice 27 (.int .i64 4194305) (.int .i64 4194305)).run Try.prog w = .ok (.slice (some ⟨w.heap.size, 0, none⟩) 4194305 4194305) (w.alloc o) := fun w => by
  obtain ⟨o, h, _⟩ := made_row w 4194305 (by decide)
  exact ⟨o, h⟩
theorem made0 : ∀ w : World, ∃ o : Obj, (Instr.makeSlice 27 (.int .i64 4194304) (.int .i64 4194304)).run Try.prog w = .ok (.slice (some ⟨w.heap.size, 0, none⟩) 4194304 4194304) (w.alloc o) ∧ RdB (w.alloc o) (.slice (some ⟨w.heap.size, 0, none⟩) 4194304 4194304) (List.replicate 4194304 0) := fun w => made_row w 4194304 (by decide)
theorem zeros_bytes (m : Nat) : bytes (List.replicate m 0) := fun x hx => by rw [(List.mem_replicate.1 hx).2]; omega
theorem frame_max (w : World) (A : Option Addr) (h : RdB w (.slice A 4194304 4194304) (List.replicate 4194304 0)) :
    Calls Try.prog 22 #[.slice A 4194304 4194304] w fun e w' => (∃ A c, e = .returned (.slice A 4194312 c)) ∧ Below w.heap.size w w' := by
  refine (frame_calls w _ (List.replicate 4194304 0) h (zeros_bytes _) (by rw [List.length_replicate]; exact Nat.le_refl _)).mono ?_
  rintro e w' ⟨v, rfl, hv, hb⟩
  obtain ⟨A, c, rfl⟩ := own_slice hv
  have e : (frm (List.replicate 4194304 0)).length = 4194312 := by rw [frm_len, List.length_replicate]
  rw [e]
  exact ⟨⟨A, c, rfl⟩, hb⟩
set_option maxHeartbeats 8000000 in
set_option maxRecDepth 100000 in
theorem big_calls (w : World) : Calls Try.prog 9 #[] w fun e w' => e = .returned (.bool true) ∧ Below w.heap.size w w' := by
  have HB := Aside0.mk (Below.refl w.heap.size w)
  go_enter Try.func9, Try.ntmps9
  go_wp2_with (first
    | ((with_reducible refine gate_callee (f := 21) rfl ?_); refine goesL_ (some 1) rfl rfl Try.func21 (by kernel_rfl) rfl #[] rfl (by (try simp only [List.map_toArray, List.map_cons, List.map_nil]); first | done | rfl) ?_; (with_reducible refine (fbegun_calls _).mono ?_); rintro e w1 ⟨rfl, hb⟩; refine ⟨_, rfl, ?_⟩; have B1 := Aside0.mk hb; clear hb; obtain ⟨o1, m1⟩ := made1 w1)
    | ((with_reducible refine gate_callee (f := 22) rfl ?_); (try (refine gate_guard (by rfl) ?_; dsimp only)); refine goesL_ (some 4) rfl rfl Try.func22 (by kernel_rfl) rfl #[.slice (some ⟨w1.heap.size, 0, none⟩) 4194305 4194305] rfl (by (try simp only [List.map_toArray, List.map_cons, List.map_nil]); first | done | rfl) ?_; (with_reducible refine (frame_long1 _ _).mono ?_); rintro e w2 ⟨rfl, rfl⟩; refine ⟨_, rfl, ?_⟩; have B2 := Aside0.mk (below_alloc B1.out o1); obtain ⟨o2, m2, hr2⟩ := made0 (w1.alloc o1); rw [show (w1.alloc o1).heap.size = w1.heap.size + 1 by simp] at m2 hr2; have R2 := Aside0.mk hr2; clear hr2)
    | ((with_reducible refine gate_callee (f := 22) rfl ?_); (try (refine gate_guard (by rfl) ?_; dsimp only)); refine goesL_ (some 10) rfl rfl Try.func22 (by kernel_rfl) rfl #[.slice (some ⟨w1.heap.size + 1, 0, none⟩) 4194304 4194304] rfl (by (try simp only [List.map_toArray, List.map_cons, List.map_nil]); first | done | rfl) ?_; (refine (frame_max _ _ R2.out).mono ?_); rintro e w3 ⟨⟨A3, c3, rfl⟩, hb⟩; refine ⟨_, rfl, ?_⟩; have B3 := Aside0.mk (below_step (below_alloc B2.out o2) hb); clear hb))

  go_ret
  exact ⟨rfl, B3.out⟩
end Go.Proofs.Ytlfckoeolcnniaa.Net
