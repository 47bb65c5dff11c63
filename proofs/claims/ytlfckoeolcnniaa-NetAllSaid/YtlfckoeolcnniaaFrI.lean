/- The walk of FrameScan. -/
import Derived.Test.YtlfckoeolcnniaaFrO
import Derived.Deep.RegionHeldLaw
import Derived.Deep.DrawnRows
namespace Go.Proofs.Ytlfckoeolcnniaa.Net
open Go.RowKit Go.Proofs.YtlfckoeolcnniaaW.PrintWords Go.Proofs.YtlfckoeolcnniaaW.PrintLast Go.Proofs.YtlfckoeolcnniaaW.PrintMore
set_option linter.unusedVariables false
set_option linter.unusedSimpArgs false
attribute [local go_sem ↓] Go.wp_at_zero Go.wp_at_succ
theorem short80 (w : World) (n c : Nat) (A : Option Addr) (bs : List Int) (h : RdB w (.slice A n c) bs) (hl : n ≤ 9223372036854775807) (hc : n ≤ c) :
    Calls Try.prog 17 #[.slice A n c, .int .i64 80] w fun e w' => ∃ v', e = .returned v' ∧ (RdB w v' (bs.take 80) ∧ CapOk v') ∧ w' = w := short_calls w n c 80 A bs h hl hc (by decide)
theorem short40 (w : World) (n c : Nat) (A : Option Addr) (bs : List Int) (h : RdB w (.slice A n c) bs) (hl : n ≤ 9223372036854775807) (hc : n ≤ c) :
    Calls Try.prog 17 #[.slice A n c, .int .i64 40] w fun e w' => ∃ v', e = .returned v' ∧ (RdB w v' (bs.take 40) ∧ CapOk v') ∧ w' = w := short_calls w n c 40 A bs h hl hc (by decide)
theorem InB.form {W : World} {v : Value} (h : InB W v) : ∃ A bs c, v = .slice A bs.length c ∧ RdB W (.slice A bs.length c) bs ∧ bytes bs ∧ bs.length ≤ c ∧ bs.length ≤ 9223372036854775807 := by
  obtain ⟨bs, hr, hb, ⟨A, n, c, e, hc⟩, hl⟩ := h
  obtain ⟨A', c', e', h1⟩ := hr
  rw [e'] at e
  injection e with e1 e2 e3
  exact ⟨A', bs, c', e', e' ▸ ⟨A', c', e', h1⟩, hb, by omega, hl⟩
theorem xor_byte {y x : Int} (hy : 0 ≤ y ∧ y < 256) (hx : 0 ≤ x ∧ x < 256) : 0 ≤ bits .xor .u8 y x ∧ bits .xor .u8 y x < 256 := by
  have h := u8_xor_nat y.toNat x.toNat (by omega) (by omega)
  rw [show ((y.toNat : Nat) : Int) = y by omega, show ((x.toNat : Nat) : Int) = x by omega] at h
  rw [h]
  have := Nat.xor_lt_two_pow (n := 8) (x := y.toNat) (y := x.toNat) (by omega) (by omega)
  omega
theorem bytes_set {l : List Int} {k : Nat} {z : Int} (h : bytes l) (hz : 0 ≤ z ∧ z < 256) : bytes (l.set k z) := fun x hx => by
  rcases List.mem_or_eq_of_mem_set hx with h1 | rfl
  · exact h x h1
  · exact hz
theorem scan_callsL (w : World) (A : Option Addr) (c n : Nat) (bs : List Int) (h : RdB w (.slice A n c) bs) (hb : bytes bs) (hl : bs.length ≤ 568) (hc : n ≤ c) :
    Calls Try.prog 24 #[.slice A n c] w fun e w' => ∃ v G a, e = .returned (.tuple #[v, .int .i64 (a : Nat)]) ∧ Rws w' w.heap.size v G ∧ Scanned bs (G.map (·.2)) a ∧ Below w.heap.size w w' := by
  have hn : n = bs.length := by obtain ⟨_, _, e, _⟩ := h; injection e
  subst hn
  exact scan_calls w A c bs h hb (by omega) hc
theorem rscan_callsL (w : World) (A : Option Addr) (c n : Nat) (bs : List Int) (h : RdB w (.slice A n c) bs) (hb : bytes bs) (hl : bs.length ≤ 568) (hc : n ≤ c) :
    Calls Try.prog 25 #[.slice A n c] w fun e w' => ∃ v G a, e = .returned (.tuple #[v, .int .i64 (a : Nat)]) ∧ Rds w w' w.heap.size v G ∧ Scanned bs (G.map (·.2)) a ∧ Below w.heap.size w w' := by
  have hn : n = bs.length := by obtain ⟨_, _, e, _⟩ := h; injection e
  subst hn
  exact rscan_calls w A c bs h hb (by omega) hc
theorem itr_le (bs : List Int) : ∀ (k : Nat) {L : List (List Int)} {a : Nat}, itr bs k = some (L, a) → a ≤ bs.length
  | 0, L, a, h => by injection h with h; injection h with h1 h2; subst h2; omega
  | k + 1, L, a, h => by
    rw [itr] at h
    cases h0 : itr bs k with
    | none => rw [h0] at h; simp at h
    | some x =>
      obtain ⟨L', a'⟩ := x
      rw [h0, Option.bind_some] at h
      cases h1 : rec1 bs a' with
      | none => simp only [h1] at h; simp at h
      | some r =>
        simp only [h1, Option.map_some, Option.some.injEq, Prod.mk.injEq] at h
        have := (rec1_len h1).1
        omega
theorem scan_few {bs : List Int} {G : List (Value × List Int)} {a : Nat} (h : Scanned bs (G.map (·.2)) a) (hl : bs.length ≤ 568) : G.length ≤ 71 := by
  have h1 := h.1
  rw [List.length_map] at h1
  have := (itr_pos bs _ h1).2
  have := itr_le bs _ h1
  omega
/-- the j-th of both rows -/
theorem both_at {w0 wb wr : World} {base b : Nat} {AG AM : Option Addr} {cG cM : Nat} {G M : List (Value × List Int)} {j : Nat} (hG : Rws wb base (.slice AG G.length cG) G) (hM : Rds w0 wb b (.slice AM M.length cM) M) (hR : ∀ x ∈ M, RdB wb x.1 x.2) (hGM : G.map (·.2) = M.map (·.2)) (hYb : ∀ x ∈ G, bytes x.2) (hw : Below wb.heap.size wb wr) (hj : j < G.length) (hlen : M.length = G.length) :
    ∃ ug um str gG gM, AG = some ⟨gG, 0, none⟩ ∧ AM = some ⟨gM, 0, none⟩ ∧ wr.cell? ⟨gG, j, none⟩ = some ug ∧ wr.cell? ⟨gM, j, none⟩ = some um ∧ (∀ w' : World, Below wr.heap.size wr w' → (convert 27 9 ug).run Try.prog w' = .ok (.string str) w') ∧ (∀ w' : World, Below wr.heap.size wr w' → (convert 27 9 um).run Try.prog w' = .ok (.string str) w') := by
  have hjm : j < M.length := by omega
  obtain ⟨gG, c1, e1, k1⟩ := hG.cell j hj
  obtain ⟨gM, c2, e2, _⟩ := hM.row.form (by omega)
  have k2 := hM.row.cells (g := gM) (by rw [e2]; rfl) j (M[j]).1 (by rw [List.getElem?_map, List.getElem?_eq_getElem hjm]; rfl)
  rw [add0] at k2
  injection e1 with e1 _ _
  injection e2 with e2 _ _
  have eb : (M[j]).2 = (G[j]).2 := by
    have := congrArg (fun l => l[j]?) hGM
    simp only [List.getElem?_map, List.getElem?_eq_getElem hj, List.getElem?_eq_getElem hjm, Option.map_some, Option.some.injEq] at this
    exact this.symm
  have b1 := hYb (G[j]) (List.getElem_mem hj)
  have rG := RdB.of_has (hG.els (G[j]) (List.getElem_mem hj))
  have rM := hR (M[j]) (List.getElem_mem hjm)
  rw [eb] at rM
  exact ⟨(G[j]).1, (M[j]).1, bstr (G[j]).2, gG, gM, e1, e2, (hw.cell (World.block_lt_of_cell? wb _ k1)).trans k1, (hw.cell (World.block_lt_of_cell? wb _ k2)).trans k2, fun w' h => run_backR w' _ _ (rG.below (below_step hw h)) b1, fun w' h => run_backR w' _ _ (rM.below (below_step hw h)) b1⟩
theorem itr_bytes {bs : List Int} (hb : bytes bs) : ∀ (k : Nat) {L : List (List Int)} {a : Nat}, itr bs k = some (L, a) → ∀ x ∈ L, bytes x
  | 0, L, a, h => by injection h with h; injection h with h1 h2; subst h1; intro x hx; simp at hx
  | k + 1, L, a, h => by
    rw [itr] at h
    cases h0 : itr bs k with
    | none => rw [h0] at h; simp at h
    | some x =>
      obtain ⟨L', a'⟩ := x
      rw [h0, Option.bind_some] at h
      cases h1 : rec1 bs a' with
      | none => simp only [h1] at h; simp at h
      | some r =>
        simp only [h1, Option.map_some, Option.some.injEq, Prod.mk.injEq] at h
        obtain ⟨h, _⟩ := h
        subst h
        intro x hx
        rcases List.mem_append.1 hx with hx | hx
        · exact itr_bytes hb k h0 x hx
        · simp at hx
          subst hx
          unfold rec1 at h1
          simp only at h1
          split at h1
          · injection h1 with h1
            rw [← h1]
            exact bytes_take (bytes_drop hb _) _
          · cases h1
theorem scan_bytes {bs : List Int} {G : List (Value × List Int)} {a : Nat} (h : Scanned bs (G.map (·.2)) a) (hb : bytes bs) : ∀ x ∈ G, bytes x.2 := fun x hx => itr_bytes hb _ h.1 x.2 (List.mem_map.2 ⟨x, hx, rfl⟩)
set_option maxHeartbeats 64000000 in
set_option maxRecDepth 100000 in
theorem fscan_begin (w : World) (vp vr : Value) (at_ x : Int) (hp : InR w vp) (hr : InB w vr) (hx : 0 ≤ x ∧ x < 256) (ha : -9223372036854775808 ≤ at_ ∧ at_ ≤ 9223372036854775807) :
    Calls Try.prog 7 #[vp, .int .i64 at_, .int .u8 x, vr] w fun e w' => e = .returned (.bool true) ∧ Below w.heap.size w w' := by
  have HB := Aside0.mk (Below.refl w.heap.size w)
  obtain ⟨A, n, c, rfl, hn, hpp⟩ := hp
  obtain ⟨Ar, rs, cr, rfl, hrr, hrb, hrc, hrl⟩ := hr.form
  have RR := Aside0.mk hrr
  have RB := Aside0.mk hrb
  have PP := Aside0.mk hpp
  clear hr hrr hrb hpp
  go_enter Try.func7, Try.ntmps7
  go_wp2_with (first
    | ((with_reducible refine gate_callee (f := 21) rfl ?_); refine goesL_ (some 19) rfl rfl Try.func21 (by kernel_rfl) rfl #[] rfl (by (try simp only [List.map_toArray, List.map_cons, List.map_nil]); first | done | rfl) ?_; (with_reducible refine (fbegun_calls _).mono ?_); rintro e w1 ⟨rfl, hb⟩; refine ⟨_, rfl, ?_⟩; have B1 := Aside0.mk hb; clear hb))
  go_loopg [10, 11] 10 (fun kq v10 v11 w' => ∃ (i : Nat) (bs : List Int), v11 = .int .i64 (i : Nat) ∧ i ≤ 6 ∧ 6 - i < kq ∧ Aside0 (bytes bs) ∧ bs.length ≤ i * 88 ∧ Aside0 (HasB w' w.heap.size v10 bs) ∧ Aside0 (Below w.heap.size w w'))
  case atStart => exact ⟨0, [], rfl, by omega, by omega, ⟨by intro x hx; simp at hx⟩, by simp, ⟨own_nil _ _ _ _⟩, B1⟩
  case round =>
    clear B1 HB
    obtain ⟨i, bs, rfl, hi, hk, YB, hbl, H, B⟩ := hrel
    cases gk with
    | zero => omega
    | succ k2 =>
      by_cases c1 : i < n ∧ i < 6
      · have d1 : decide ((i : Int) < (n : Int)) = true := decide_eq_true (by omega)
        have d2 : decide ((i : Int) < 6) = true := decide_eq_true (by omega)
        have d3 : IntKind.i64.wrap ((i : Int) + 1) = (i : Int) + 1 := by rw [IntKind.wrap_i64]; omega
        obtain ⟨a, rfl, hcell⟩ := PP.out (by omega)
        obtain ⟨u, hu, hub⟩ := hcell i c1.1
        obtain ⟨Au, us, cu, rfl, hur, hubb, huc, hul⟩ := hub.form
        have cu0 : wr.cell? (a.add i) = some (.slice Au us.length cu) := (B.out.cell (World.block_lt_of_cell? w _ hu)).trans hu
        have UR := Aside0.mk hur
        have UB := Aside0.mk hubb
        obtain ⟨p, hp⟩ : ∃ p, us.take 80 = p := ⟨_, rfl⟩
        have pl : p.length ≤ 80 := by rw [← hp, List.length_take]; omega
        have PB : Aside0 (bytes p) := ⟨hp ▸ bytes_take hubb 80⟩
        have HP := Aside0.mk hp
        have PL := Aside0.mk pl
        obtain ⟨S1, hS1⟩ : ∃ S, bstr (frm p) = S := ⟨_, rfl⟩
        have HS1 := Aside0.mk hS1
        have q5 : (!S1.toList == S1.toList) = false := by simp
        obtain ⟨A10, c10, rfl⟩ := own_slice H.out
        clear hu hub hur hubb hp pl hS1
        go_wp2_with (first
          | ((with_reducible refine gate_callee (f := 17) rfl ?_); refine goesL_ (some 36) rfl rfl Try.func17 (by kernel_rfl) rfl #[.slice Au us.length cu, .int .i64 80] rfl (by (try simp only [List.map_toArray, List.map_cons, List.map_nil]); first | done | rfl) ?_; (with_reducible refine (short80 _ us.length cu Au us (UR.out.below B.out) hul huc).mono ?_); rintro e w2 ⟨v2, rfl, ⟨hV, _⟩, rfl⟩; rw [HP.out] at hV; refine ⟨_, rfl, ?_⟩; have V2 := Aside0.mk hV; clear hV)
          | ((with_reducible refine gate_callee (f := 22) rfl ?_); refine goesL_ (some 38) rfl rfl Try.func22 (by kernel_rfl) rfl #[v2] rfl (by (try simp only [List.map_toArray, List.map_cons, List.map_nil]); first | done | rfl) ?_; (with_reducible refine (frame_calls _ v2 p V2.out PB.out (by have := PL.out; omega)).mono ?_); rintro e w3 ⟨v3, rfl, hH, hb⟩; refine ⟨_, rfl, ?_⟩; have H3 := Aside0.mk hH; have B3 := Aside0.mk (below_step B.out hb); have H10 := Aside0.mk (pw_own_below H.out hb); have V3 := Aside0.mk (V2.out.below hb); clear hH hb))
        go_region_held_law (fun w' => (convert 27 9 v3).run Try.prog w' = .ok (.string S1) w' ∧ Below w3.heap.size w3 w') (first | exact ⟨by rw [← HS1.out]; exact run_backR _ v3 (frm p) ((RdB.of_has H3.out).below B5.out) (frm_bytes _ PB.out), B5.out⟩ | exact ⟨by rw [← HS1.out]; exact run_backR _ v3 (frm p) ((RdB.of_has H3.out).below (below_drew (Below.refl _ _))) (frm_bytes _ PB.out), below_drew (Below.refl _ _)⟩) (first
          | (refine goes_ Try.func23 (by kernel_rfl) rfl #[v2] (by rfl) rfl rfl (by (try simp only [List.map_toArray, List.map_cons, List.map_nil]); first | done | rfl) ?_; refine (rframe_calls _ v2 p (V3.out.below (below_drew (Below.refl _ _))) PB.out (by have := PL.out; omega)).mono ?_; rintro e w5 ⟨v5, rfl, hH, hb⟩; refine ⟨_, rfl, ?_⟩; have H5 := Aside0.mk hH; have B5 : Aside0 (Below w3.heap.size w3 w5) := ⟨⟨hb.os, hb.tape, hb.output, hb.size, hb.block⟩⟩; have cv5 : (convert 27 9 v5).run Try.prog w5 = .ok (.string S1) w5 := (by rw [← HS1.out]; exact run_backR _ v5 (frm p) (RdB.of_has H5.out) (frm_bytes _ PB.out)); clear hH hb))
        have H35 := Aside0.mk (pw_own_below H3.out B5.out)
        have H105 := Aside0.mk (pw_own_below H10.out B5.out)
        have B55 := Aside0.mk (below_step B3.out B5.out)
        obtain ⟨A3, c3, e3, R3⟩ := (RdB.of_has H35.out).ints (by rw [frm_len]; have := PL.out; omega)
        subst e3
        have R3 := Aside0.mk R3
        clear cv5
        go_wp2_with (at_builtin; go_loud (refine print_append_row w.heap.size rfl (.tmp 45) (.tmp 46) 27 5 .u8 1 rfl Try.underlying27 info5 (by decide) (.slice A10 bs.length c10) bs (frm p) A3 (frm p).length c3 (by rfl) (by rfl) H105.out R3.out B55.out B55.out.size (by rw [frm_len]; have := PL.out; omega) ?_); intro v6 w6 hown hb _ _; have O6 : Aside0 (HasB w6 w.heap.size v6 (bs ++ frm p)) := ⟨hown⟩; have B6 := Aside0.mk hb; clear hown hb)
        go_roundg k2
        case measure => omega
        case rel => exact ⟨i + 1, bs ++ frm p, by simp, by omega, by omega, ⟨bytes_app YB.out (frm_bytes _ PB.out)⟩, by rw [List.length_append, frm_len]; have := PL.out; omega, O6, B6⟩
      · have hf : decide (i < n) = false ∨ (decide (i < n) = true ∧ decide ((i : Int) < 6) = false) := by
          rcases Nat.lt_or_ge i n with h | h
          · exact .inr ⟨decide_eq_true (by omega), decide_eq_false (by omega)⟩
          · exact .inl (decide_eq_false (by omega))
        clear c1
        obtain ⟨r, hr⟩ : ∃ r, rs.take 40 = r := ⟨_, rfl⟩
        have RL : Aside0 (r.length ≤ 40) := ⟨by rw [← hr, List.length_take]; omega⟩
        have HR := Aside0.mk hr
        have RBB : Aside0 (bytes r) := ⟨hr ▸ bytes_take RB.out 40⟩
        obtain ⟨Z, hZ⟩ : ∃ Z, bs ++ r = Z := ⟨_, rfl⟩
        have ZL : Z.length ≤ 568 := by rw [← hZ, List.length_append]; have := RL.out; omega
        have HZ := Aside0.mk hZ
        have ZB : Aside0 (bytes Z) := ⟨hZ ▸ bytes_app YB.out RBB.out⟩
        obtain ⟨A10, c10, rfl⟩ := own_slice H.out
        clear hr hZ
        by_cases hz : Z.length = 0
        · have f1 : decide ((0 : Int) < (Z.length : Int)) = false := decide_eq_false (by omega)
          have f0 : decide (0 < Z.length) = false := decide_eq_false (by omega)
          clear hz
          rcases hf with e1 | ⟨e1, e2⟩
          all_goals
          go_wp2_with (first
            | ((with_reducible refine gate_callee (f := 17) rfl ?_); refine goesL_ (some 50) rfl rfl Try.func17 (by kernel_rfl) rfl #[.slice Ar rs.length cr, .int .i64 40] rfl (by (try simp only [List.map_toArray, List.map_cons, List.map_nil]); first | done | rfl) ?_; (with_reducible refine (short40 _ rs.length cr Ar rs (RR.out.below B.out) hrl hrc).mono ?_); rintro e w2 ⟨v2, rfl, ⟨hV, _⟩, rfl⟩; rw [HR.out] at hV; refine ⟨_, rfl, ?_⟩; obtain ⟨A2, c2, rfl, R2⟩ := hV.ints (by have := RL.out; omega); have R2 := Aside0.mk R2; clear hV)
            | (at_builtin; refine print_append_row w.heap.size rfl (.tmp 48) (.tmp 50) 27 5 .u8 1 rfl Try.underlying27 info5 (by decide) (.slice A10 bs.length c10) bs r A2 r.length c2 (by rfl) (by rfl) H.out R2.out B.out B.out.size (by have := RL.out; omega) ?_; rw [HZ.out]; intro v6 w6 hown hb _ _; have O6 : Aside0 (HasB w6 w.heap.size v6 Z) := ⟨hown⟩; have B6 := Aside0.mk hb; clear hown hb; obtain ⟨A6, c6, rfl, hc6⟩ := own_cap O6.out; have O9 := O6; have B9 := B6; have YB9 := ZB; have YL9 := Aside0.mk ZL)
            | ((with_reducible refine gate_callee (f := 24) rfl ?_); refine goesL_ (some 72) rfl rfl Try.func24 (by kernel_rfl) rfl #[.slice A6 Z.length c6] rfl (by (try simp only [List.map_toArray, List.map_cons, List.map_nil]); first | done | rfl) ?_; (refine (scan_callsL _ _ c6 Z.length Z (RdB.of_has O9.out) YB9.out YL9.out hc6).mono ?_); rintro e wa ⟨va, G, a, rfl, hG, hS, hb⟩; refine ⟨_, rfl, ?_⟩; have RA := Aside0.mk hG; have SA := Aside0.mk hS; have BA := Aside0.mk (below_step B9.out hb); have OA := Aside0.mk (pw_own_below O9.out hb); clear hG hS hb)
            | ((with_reducible refine gate_callee (f := 25) rfl ?_); refine goesL_ (some 77) rfl rfl Try.func25 (by kernel_rfl) rfl #[.slice A6 Z.length c6] rfl (by (try simp only [List.map_toArray, List.map_cons, List.map_nil]); first | done | rfl) ?_; (refine (rscan_callsL _ _ c6 Z.length Z (RdB.of_has OA.out) YB9.out YL9.out hc6).mono ?_); rintro e wb ⟨vb, M, b, rfl, hM, hS, hb⟩; refine ⟨_, rfl, ?_⟩; obtain ⟨hGM, rfl⟩ := SA.out.uniq hS; have GM := Aside0.mk hGM; have RB' := Aside0.mk hM; have BB := Aside0.mk (below_step BA.out hb); have RA' := Aside0.mk (RA.out.below hb); have RM : Aside0 (∀ x ∈ M, RdB wb x.1 x.2) := ⟨fun x hx => (hM.els x hx).below hb⟩; have hlen : M.length = G.length := (by have := congrArg List.length hGM; simpa using this.symm); have YBn := Aside0.mk (scan_bytes SA.out YB9.out); have LGm := Aside0.mk (scan_few SA.out YL9.out); clear hM hS hb hGM; obtain ⟨AG, cG, rfl⟩ := own_slice RA'.out.row; obtain ⟨AM, cM, rfl⟩ := own_slice RB'.out.row))
          go_loopg [18] (G.length + 2) (fun kq v18 w' => ∃ j : Nat, v18 = .int .i64 (j : Nat) ∧ j ≤ G.length ∧ G.length - j < kq ∧ Aside0 (Below wb.heap.size wb w'))
          case atStart => exact ⟨0, rfl, Nat.zero_le _, by omega, ⟨Below.refl _ _⟩⟩
          case round =>
            obtain ⟨j, rfl, hj, hjk, BJ⟩ := hrel
            cases gk with
            | zero => omega
            | succ k3 =>
              by_cases cj : j < G.length
              · have j1 : decide (j < G.length) = true := decide_eq_true cj
                have j2 : IntKind.i64.wrap ((j : Int) + 1) = (j : Int) + 1 := by rw [IntKind.wrap_i64]; have := LGm.out; omega
                obtain ⟨ug, um, str, gG, gM, rfl, rfl, cg, cm, rg, rm⟩ := both_at RA'.out RB'.out RM.out GM.out YBn.out BJ.out cj hlen
                have i1 : (0 : Int) ≤ (j : Int) := by omega
                have i2 : (j : Int) < (G.length : Int) := by omega
                have q5 : (!str.toList == str.toList) = false := by simp
                have R1 := Aside0.mk rg
                have R2 := Aside0.mk rm
                have R3 := Aside0.mk (And.intro cg cm)
                clear rg rm
                go_wp2
                go_region_held_law (fun w' => (convert 27 9 ug).run Try.prog w' = .ok (.string str) w' ∧ (convert 27 9 um).run Try.prog w' = .ok (.string str) w' ∧ w'.cell? ⟨gG, j, none⟩ = some ug ∧ w'.cell? ⟨gM, j, none⟩ = some um) (exact ⟨R1.out _ (below_drew (Below.refl _ _)), R2.out _ (below_drew (Below.refl _ _)), R3.out.1, R3.out.2⟩) (fail)
                go_wp2
                go_roundg k3
                case measure => omega
                case rel => exact ⟨j + 1, by simp, by omega, by omega, ⟨below_drew BJ.out⟩⟩
              · have j1 : decide (j < G.length) = false := decide_eq_false cj
                go_wp2
                go_ret
                exact ⟨rfl, below_step BB.out BJ.out⟩
        · have f1 : decide ((0 : Int) < (Z.length : Int)) = true := decide_eq_true (by omega)
          have f0 : decide (0 < Z.length) = true := decide_eq_true (by omega)
          obtain ⟨t, ht, ht0⟩ : ∃ t : Int, t = (if at_ < 0 then -(at_ + 1) else at_) ∧ 0 ≤ t := ⟨_, rfl, by split <;> omega⟩
          obtain ⟨k, hk'⟩ : ∃ k : Nat, t % (Z.length : Int) = (k : Int) := ⟨(t % (Z.length : Int)).toNat, by have := Int.emod_nonneg t (b := (Z.length : Int)) (by omega); omega⟩
          have hkl : (k : Int) < (Z.length : Int) := by rw [← hk']; exact Int.emod_lt_of_pos _ (by omega)
          have hkt : t.tmod (Z.length : Int) = (k : Int) := by rw [Int.tmod_eq_emod_of_nonneg ht0]; exact hk'
          have hkw : IntKind.i64.wrap (k : Int) = (k : Int) := by rw [IntKind.wrap_i64]; omega
          have hk0 : (0 : Int) ≤ (k : Int) := by omega
          obtain ⟨y, hky⟩ : ∃ y, rd Z (k : Int) = y := ⟨_, rfl⟩
          have hyb : 0 ≤ y ∧ y < 256 := hky ▸ bytes_at ZB.out _
          obtain ⟨z, hzz⟩ : ∃ z, bits .xor .u8 y x = z := ⟨_, rfl⟩
          have hzb : 0 ≤ z ∧ z < 256 := hzz ▸ xor_byte hyb hx
          have YB9 : Aside0 (bytes (Z.set k z)) := ⟨bytes_set ZB.out hzb⟩
          have YL9 : Aside0 ((Z.set k z).length ≤ 568) := ⟨by rw [List.length_set]; exact ZL⟩
          clear hk'
          by_cases hat : at_ < 0
          · rw [if_pos hat] at ht
            subst ht
            have f2 : decide (at_ < 0) = true := decide_eq_true hat
            have f3 : IntKind.i64.wrap (at_ + 1) = at_ + 1 := by rw [IntKind.wrap_i64]; omega
            have f4 : IntKind.i64.wrap (-(at_ + 1)) = -(at_ + 1) := by rw [IntKind.wrap_i64]; omega
            have f5 : -((at_ + 1).tmod (Z.length : Int)) = (k : Int) := by rw [← Int.neg_tmod]; exact hkt
            rcases hf with e1 | ⟨e1, e2⟩
            all_goals
            go_wp2_with (first
              | ((with_reducible refine gate_callee (f := 17) rfl ?_); refine goesL_ (some 50) rfl rfl Try.func17 (by kernel_rfl) rfl #[.slice Ar rs.length cr, .int .i64 40] rfl (by (try simp only [List.map_toArray, List.map_cons, List.map_nil]); first | done | rfl) ?_; (with_reducible refine (short40 _ rs.length cr Ar rs (RR.out.below B.out) hrl hrc).mono ?_); rintro e w2 ⟨v2, rfl, ⟨hV, _⟩, rfl⟩; rw [HR.out] at hV; refine ⟨_, rfl, ?_⟩; obtain ⟨A2, c2, rfl, R2⟩ := hV.ints (by have := RL.out; omega); have R2 := Aside0.mk R2; clear hV)
              | (at_builtin; refine print_append_row w.heap.size rfl (.tmp 48) (.tmp 50) 27 5 .u8 1 rfl Try.underlying27 info5 (by decide) (.slice A10 bs.length c10) bs r A2 r.length c2 (by rfl) (by rfl) H.out R2.out B.out B.out.size (by have := RL.out; omega) ?_; rw [HZ.out]; intro v6 w6 hown hb _ _; have O6 : Aside0 (HasB w6 w.heap.size v6 Z) := ⟨hown⟩; have B6 := Aside0.mk hb; clear hown hb; obtain ⟨g, c6, rfl, hg6, hg7⟩ := O6.out.form (by omega); have hc6 : Z.length ≤ c6 := (by obtain ⟨A', c', e', h'⟩ := own_cap O6.out; injection e' with _ _ e3; omega); obtain ⟨k1, k2'⟩ := own_at (i := (k : Int)) O6.out (by omega) (by omega); rw [hky, show ((k : Int)).toNat = k by omega] at k1; rw [show ((k : Int)).toNat = k by omega] at k2'; have O9 : Aside0 (HasB (w6.setCell ⟨g, k, none⟩ (.int .u8 z)) w.heap.size (.slice (some ⟨g, 0, none⟩) Z.length c6) (Z.set k z)) := ⟨by have := (own_store O6.out (k : Int) z).1; rw [show ((k : Int)).toNat = k by omega] at this; show World.ownsRow _ _ _ _ _ (Z.set k z).length _; rw [List.length_set]; exact this⟩; have B9 : Aside0 (Below w.heap.size w (w6.setCell ⟨g, k, none⟩ (.int .u8 z))) := ⟨B6.out.setCell (p := ⟨g, k, none⟩) hg6 _⟩)
              | ((with_reducible refine gate_callee (f := 24) rfl ?_); refine goesL_ (some 72) rfl rfl Try.func24 (by kernel_rfl) rfl #[.slice (some ⟨g, 0, none⟩) Z.length c6] rfl (by (try simp only [List.map_toArray, List.map_cons, List.map_nil]); first | done | rfl) ?_; (refine (scan_callsL _ _ c6 Z.length (Z.set k z) (RdB.of_has O9.out) YB9.out YL9.out hc6).mono ?_); rintro e wa ⟨va, G, a, rfl, hG, hS, hb⟩; refine ⟨_, rfl, ?_⟩; have RA := Aside0.mk hG; have SA := Aside0.mk hS; have BA := Aside0.mk (below_step B9.out hb); have OA := Aside0.mk (pw_own_below O9.out hb); clear hG hS hb)
              | ((with_reducible refine gate_callee (f := 25) rfl ?_); refine goesL_ (some 77) rfl rfl Try.func25 (by kernel_rfl) rfl #[.slice (some ⟨g, 0, none⟩) Z.length c6] rfl (by (try simp only [List.map_toArray, List.map_cons, List.map_nil]); first | done | rfl) ?_; (refine (rscan_callsL _ _ c6 Z.length (Z.set k z) (RdB.of_has OA.out) YB9.out YL9.out hc6).mono ?_); rintro e wb ⟨vb, M, b, rfl, hM, hS, hb⟩; refine ⟨_, rfl, ?_⟩; obtain ⟨hGM, rfl⟩ := SA.out.uniq hS; have GM := Aside0.mk hGM; have RB' := Aside0.mk hM; have BB := Aside0.mk (below_step BA.out hb); have RA' := Aside0.mk (RA.out.below hb); have RM : Aside0 (∀ x ∈ M, RdB wb x.1 x.2) := ⟨fun x hx => (hM.els x hx).below hb⟩; have hlen : M.length = G.length := (by have := congrArg List.length hGM; simpa using this.symm); have YBn := Aside0.mk (scan_bytes SA.out YB9.out); have LGm := Aside0.mk (scan_few SA.out YL9.out); clear hM hS hb hGM; obtain ⟨AG, cG, rfl⟩ := own_slice RA'.out.row; obtain ⟨AM, cM, rfl⟩ := own_slice RB'.out.row))
            go_loopg [18] (G.length + 2) (fun kq v18 w' => ∃ j : Nat, v18 = .int .i64 (j : Nat) ∧ j ≤ G.length ∧ G.length - j < kq ∧ Aside0 (Below wb.heap.size wb w'))
            case atStart => exact ⟨0, rfl, Nat.zero_le _, by omega, ⟨Below.refl _ _⟩⟩
            case round =>
              obtain ⟨j, rfl, hj, hjk, BJ⟩ := hrel
              cases gk with
              | zero => omega
              | succ k3 =>
                by_cases cj : j < G.length
                · have j1 : decide (j < G.length) = true := decide_eq_true cj
                  have j2 : IntKind.i64.wrap ((j : Int) + 1) = (j : Int) + 1 := by rw [IntKind.wrap_i64]; have := LGm.out; omega
                  obtain ⟨ug, um, str, gG, gM, rfl, rfl, cg, cm, rg, rm⟩ := both_at RA'.out RB'.out RM.out GM.out YBn.out BJ.out cj hlen
                  have i1 : (0 : Int) ≤ (j : Int) := by omega
                  have i2 : (j : Int) < (G.length : Int) := by omega
                  have q5 : (!str.toList == str.toList) = false := by simp
                  have R1 := Aside0.mk rg
                  have R2 := Aside0.mk rm
                  have R3 := Aside0.mk (And.intro cg cm)
                  clear rg rm
                  go_wp2
                  go_region_held_law (fun w' => (convert 27 9 ug).run Try.prog w' = .ok (.string str) w' ∧ (convert 27 9 um).run Try.prog w' = .ok (.string str) w' ∧ w'.cell? ⟨gG, j, none⟩ = some ug ∧ w'.cell? ⟨gM, j, none⟩ = some um) (exact ⟨R1.out _ (below_drew (Below.refl _ _)), R2.out _ (below_drew (Below.refl _ _)), R3.out.1, R3.out.2⟩) (fail)
                  go_wp2
                  go_roundg k3
                  case measure => omega
                  case rel => exact ⟨j + 1, by simp, by omega, by omega, ⟨below_drew BJ.out⟩⟩
                · have j1 : decide (j < G.length) = false := decide_eq_false cj
                  go_wp2
                  go_ret
                  exact ⟨rfl, below_step BB.out BJ.out⟩
          · rw [if_neg hat] at ht
            subst ht
            have f2 : decide (t < 0) = false := decide_eq_false hat
            have f5 : t % (Z.length : Int) = (k : Int) := by rw [← Int.tmod_eq_emod_of_nonneg ht0]; exact hkt
            rcases hf with e1 | ⟨e1, e2⟩
            all_goals
            go_wp2_with (first
              | ((with_reducible refine gate_callee (f := 17) rfl ?_); refine goesL_ (some 50) rfl rfl Try.func17 (by kernel_rfl) rfl #[.slice Ar rs.length cr, .int .i64 40] rfl (by (try simp only [List.map_toArray, List.map_cons, List.map_nil]); first | done | rfl) ?_; (with_reducible refine (short40 _ rs.length cr Ar rs (RR.out.below B.out) hrl hrc).mono ?_); rintro e w2 ⟨v2, rfl, ⟨hV, _⟩, rfl⟩; rw [HR.out] at hV; refine ⟨_, rfl, ?_⟩; obtain ⟨A2, c2, rfl, R2⟩ := hV.ints (by have := RL.out; omega); have R2 := Aside0.mk R2; clear hV)
              | (at_builtin; refine print_append_row w.heap.size rfl (.tmp 48) (.tmp 50) 27 5 .u8 1 rfl Try.underlying27 info5 (by decide) (.slice A10 bs.length c10) bs r A2 r.length c2 (by rfl) (by rfl) H.out R2.out B.out B.out.size (by have := RL.out; omega) ?_; rw [HZ.out]; intro v6 w6 hown hb _ _; have O6 : Aside0 (HasB w6 w.heap.size v6 Z) := ⟨hown⟩; have B6 := Aside0.mk hb; clear hown hb; obtain ⟨g, c6, rfl, hg6, hg7⟩ := O6.out.form (by omega); have hc6 : Z.length ≤ c6 := (by obtain ⟨A', c', e', h'⟩ := own_cap O6.out; injection e' with _ _ e3; omega); obtain ⟨k1, k2'⟩ := own_at (i := (k : Int)) O6.out (by omega) (by omega); rw [hky, show ((k : Int)).toNat = k by omega] at k1; rw [show ((k : Int)).toNat = k by omega] at k2'; have O9 : Aside0 (HasB (w6.setCell ⟨g, k, none⟩ (.int .u8 z)) w.heap.size (.slice (some ⟨g, 0, none⟩) Z.length c6) (Z.set k z)) := ⟨by have := (own_store O6.out (k : Int) z).1; rw [show ((k : Int)).toNat = k by omega] at this; show World.ownsRow _ _ _ _ _ (Z.set k z).length _; rw [List.length_set]; exact this⟩; have B9 : Aside0 (Below w.heap.size w (w6.setCell ⟨g, k, none⟩ (.int .u8 z))) := ⟨B6.out.setCell (p := ⟨g, k, none⟩) hg6 _⟩)
              | ((with_reducible refine gate_callee (f := 24) rfl ?_); refine goesL_ (some 72) rfl rfl Try.func24 (by kernel_rfl) rfl #[.slice (some ⟨g, 0, none⟩) Z.length c6] rfl (by (try simp only [List.map_toArray, List.map_cons, List.map_nil]); first | done | rfl) ?_; (refine (scan_callsL _ _ c6 Z.length (Z.set k z) (RdB.of_has O9.out) YB9.out YL9.out hc6).mono ?_); rintro e wa ⟨va, G, a, rfl, hG, hS, hb⟩; refine ⟨_, rfl, ?_⟩; have RA := Aside0.mk hG; have SA := Aside0.mk hS; have BA := Aside0.mk (below_step B9.out hb); have OA := Aside0.mk (pw_own_below O9.out hb); clear hG hS hb)
              | ((with_reducible refine gate_callee (f := 25) rfl ?_); refine goesL_ (some 77) rfl rfl Try.func25 (by kernel_rfl) rfl #[.slice (some ⟨g, 0, none⟩) Z.length c6] rfl (by (try simp only [List.map_toArray, List.map_cons, List.map_nil]); first | done | rfl) ?_; (refine (rscan_callsL _ _ c6 Z.length (Z.set k z) (RdB.of_has OA.out) YB9.out YL9.out hc6).mono ?_); rintro e wb ⟨vb, M, b, rfl, hM, hS, hb⟩; refine ⟨_, rfl, ?_⟩; obtain ⟨hGM, rfl⟩ := SA.out.uniq hS; have GM := Aside0.mk hGM; have RB' := Aside0.mk hM; have BB := Aside0.mk (below_step BA.out hb); have RA' := Aside0.mk (RA.out.below hb); have RM : Aside0 (∀ x ∈ M, RdB wb x.1 x.2) := ⟨fun x hx => (hM.els x hx).below hb⟩; have hlen : M.length = G.length := (by have := congrArg List.length hGM; simpa using this.symm); have YBn := Aside0.mk (scan_bytes SA.out YB9.out); have LGm := Aside0.mk (scan_few SA.out YL9.out); clear hM hS hb hGM; obtain ⟨AG, cG, rfl⟩ := own_slice RA'.out.row; obtain ⟨AM, cM, rfl⟩ := own_slice RB'.out.row))
            go_loopg [18] (G.length + 2) (fun kq v18 w' => ∃ j : Nat, v18 = .int .i64 (j : Nat) ∧ j ≤ G.length ∧ G.length - j < kq ∧ Aside0 (Below wb.heap.size wb w'))
            case atStart => exact ⟨0, rfl, Nat.zero_le _, by omega, ⟨Below.refl _ _⟩⟩
            case round =>
              obtain ⟨j, rfl, hj, hjk, BJ⟩ := hrel
              cases gk with
              | zero => omega
              | succ k3 =>
                by_cases cj : j < G.length
                · have j1 : decide (j < G.length) = true := decide_eq_true cj
                  have j2 : IntKind.i64.wrap ((j : Int) + 1) = (j : Int) + 1 := by rw [IntKind.wrap_i64]; have := LGm.out; omega
                  obtain ⟨ug, um, str, gG, gM, rfl, rfl, cg, cm, rg, rm⟩ := both_at RA'.out RB'.out RM.out GM.out YBn.out BJ.out cj hlen
                  have i1 : (0 : Int) ≤ (j : Int) := by omega
                  have i2 : (j : Int) < (G.length : Int) := by omega
                  have q5 : (!str.toList == str.toList) = false := by simp
                  have R1 := Aside0.mk rg
                  have R2 := Aside0.mk rm
                  have R3 := Aside0.mk (And.intro cg cm)
                  clear rg rm
                  go_wp2
                  go_region_held_law (fun w' => (convert 27 9 ug).run Try.prog w' = .ok (.string str) w' ∧ (convert 27 9 um).run Try.prog w' = .ok (.string str) w' ∧ w'.cell? ⟨gG, j, none⟩ = some ug ∧ w'.cell? ⟨gM, j, none⟩ = some um) (exact ⟨R1.out _ (below_drew (Below.refl _ _)), R2.out _ (below_drew (Below.refl _ _)), R3.out.1, R3.out.2⟩) (fail)
                  go_wp2
                  go_roundg k3
                  case measure => omega
                  case rel => exact ⟨j + 1, by simp, by omega, by omega, ⟨below_drew BJ.out⟩⟩
                · have j1 : decide (j < G.length) = false := decide_eq_false cj
                  go_wp2
                  go_ret
                  exact ⟨rfl, below_step BB.out BJ.out⟩
theorem wf_u8 {x : Int} (h : (Lit.int .u8 x).wf = true) : 0 ≤ x ∧ x < 256 := by
  simp [Lit.wf, IntKind.min, IntKind.max, IntKind.bits, IntKind.signed] at h
  omega
theorem wf_i64 {x : Int} (h : (Lit.int .i64 x).wf = true) : -9223372036854775808 ≤ x ∧ x ≤ 9223372036854775807 := by
  simp [Lit.wf, IntKind.min, IntKind.max, IntKind.bits, IntKind.signed] at h
  omega
theorem fscan_calls (vp : Value) (at_ x : Int) (vr : Value) (w : World) (hp : InR w vp) (ha : (Lit.int .i64 at_).wf = true) (hx : (Lit.int .u8 x).wf = true) (hr : InB w vr) :
    Calls Try.prog 7 #[vp, .int .i64 at_, .int .u8 x, vr] w fun e w' => e = .returned (.bool true) ∧ Below w.heap.size w w' :=
  fscan_begin w vp vr at_ x hp hr (wf_u8 hx) (wf_i64 ha)
end Go.Proofs.Ytlfckoeolcnniaa.Net
