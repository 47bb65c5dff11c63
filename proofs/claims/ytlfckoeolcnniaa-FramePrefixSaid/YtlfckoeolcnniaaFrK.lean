/- The walk of FramePrefix. -/
import Derived.Test.YtlfckoeolcnniaaFrJ
import Derived.Deep.QuietTactic
import Derived.BigQuiet
namespace Go.Proofs.Ytlfckoeolcnniaa.Net
open Go.RowKit Go.Proofs.YtlfckoeolcnniaaW.PrintWords Go.Proofs.YtlfckoeolcnniaaW.PrintLast Go.Proofs.YtlfckoeolcnniaaW.PrintMore
set_option linter.unusedVariables false
set_option linter.unusedSimpArgs false
theorem info3 : (Try.prog.info? 3).map (fun i => (i.zero, i.size, i.bytes)) = some (some (.int .i64 0), 1, 8) := by kernel_rfl
theorem short60 (w : World) (n c : Nat) (A : Option Addr) (bs : List Int) (h : RdB w (.slice A n c) bs) (hl : n ≤ 9223372036854775807) (hc : n ≤ c) :
    Calls Try.prog 17 #[.slice A n c, .int .i64 60] w fun e w' => ∃ v', e = .returned v' ∧ (RdB w v' (bs.take 60) ∧ CapOk v') ∧ w' = w := short_calls w n c 60 A bs h hl hc (by decide)
/-- where each ends -/
def ends (P : List (List Int)) : List Int := (List.range P.length).map fun k => ((pos P (k + 1) : Nat) : Int)
theorem ends_len (P : List (List Int)) : (ends P).length = P.length := by simp [ends]
theorem ends_at (P : List (List Int)) (k : Nat) (h : k < P.length) : (ends P)[k]? = some ((pos P (k + 1) : Nat) : Int) := by
  unfold ends
  rw [List.getElem?_map, List.getElem?_range h]
  rfl
theorem ends_snoc (P : List (List Int)) (x : List Int) : ends (P ++ [x]) = ends P ++ [(((cat P).length + (frm x).length : Nat) : Int)] := by
  unfold ends
  rw [List.length_append, List.length_singleton, List.range_succ, List.map_append]
  congr 1
  · apply List.map_congr_left
    intro k hk
    rw [pos_app _ _ _ (by have := List.mem_range.1 hk; omega)]
  · have h1 := pos_succ (P ++ [x]) P.length (by simp)
    rw [pos_app _ _ _ (Nat.le_refl _), pos_all] at h1
    simp only [List.map_cons, List.map_nil, h1, frm_len]
    simp
    omega
theorem cat_len (P : List (List Int)) (h : ∀ x ∈ P, x.length ≤ 60) : (cat P).length ≤ P.length * 68 := by
  induction P with
  | nil => simp [cat]
  | cons x r ih =>
    rw [cat, List.length_append, frm_len, List.length_cons]
    have := ih (fun y hy => h y (by simp [hy]))
    have := h x (by simp)
    omega
theorem cat_bytes (P : List (List Int)) (h : ∀ x ∈ P, bytes x) : bytes (cat P) := by
  induction P with
  | nil => intro x hx; simp [cat] at hx
  | cons x r ih => exact bytes_app (frm_bytes _ (h x (by simp))) (ih fun y hy => h y (by simp [hy]))
theorem scan_callsM (w : World) (A : Option Addr) (c n : Nat) (bs : List Int) (h : RdB w (.slice A n c) bs) (hb : bytes bs) (hl : bs.length ≤ 100000000) (hc : n ≤ c) :
    Calls Try.prog 24 #[.slice A n c] w fun e w' => ∃ v G a, e = .returned (.tuple #[v, .int .i64 (a : Nat)]) ∧ Rws w' w.heap.size v G ∧ Scanned bs (G.map (·.2)) a ∧ Below w.heap.size w w' := by
  have hn : n = bs.length := by obtain ⟨_, _, e, _⟩ := h; injection e
  subst hn
  exact scan_calls w A c bs h hb hl hc
theorem ends_cell {wa wr : World} {base n c j : Nat} {A : Option Addr} {E : List Int} {P : List (List Int)} (h : wa.ownsRow base 3 1 (.slice A n c) n (nums .i64 E)) (he : ends P = E) (hb : Below wa.heap.size wa wr) (hj : j < P.length) : ∃ ad, A = some ad ∧ wr.cell? (ad.add j) = some (.int .i64 (pos P (j + 1) : Nat)) := by
  obtain ⟨A', c', e, h1⟩ := own_reads h
  injection e with e1 _ _
  subst e1
  have hn : n = P.length := by have := h1.1; rw [← he, ends_len] at this; exact this.symm
  obtain ⟨ad, e2, h2⟩ := (h1.below hb).at_ (j : Int) (by omega) (by omega)
  refine ⟨ad, e2, ?_⟩
  rw [show ((j : Int)).toNat = j by omega] at h2
  rw [h2, ← he]
  unfold rd
  rw [List.getD_eq_getElem?_getD, show ((j : Int)).toNat = j by omega, ends_at P j hj]
  rfl
set_option maxHeartbeats 64000000 in
set_option maxRecDepth 100000 in
theorem fprefix_calls (vp : Value) (cut : Int) (w : World) (hp : InR w vp) (hcw : (Lit.int .i64 cut).wf = true) :
    Calls Try.prog 8 #[vp, .int .i64 cut] w fun e w' => e = .returned (.bool true) ∧ Below w.heap.size w w' := by
  have HB := Aside0.mk (Below.refl w.heap.size w)
  have hcr := wf_i64 hcw
  clear hcw
  obtain ⟨A, n, c, rfl, hn, hpp⟩ := hp
  have PP := Aside0.mk hpp
  clear hpp
  go_enter Try.func8, Try.ntmps8
  go_wp2_with (first
    | ((with_reducible refine gate_callee (f := 21) rfl ?_); refine goesL_ (some 14) rfl rfl Try.func21 (by kernel_rfl) rfl #[] rfl (by (try simp only [List.map_toArray, List.map_cons, List.map_nil]); first | done | rfl) ?_; (with_reducible refine (fbegun_calls _).mono ?_); rintro e w1 ⟨rfl, hb⟩; refine ⟨_, rfl, ?_⟩; have B1 := Aside0.mk hb; clear hb))
  go_loopg [6, 7, 8] 12 (fun kq v6 v7 v8 w' => ∃ (P : List (List Int)), v8 = .int .i64 (P.length : Nat) ∧ P.length ≤ 8 ∧ 8 - P.length < kq ∧ Aside0 (∀ x ∈ P, bytes x ∧ x.length ≤ 60) ∧ Aside0 (HasB w' w.heap.size v6 (cat P)) ∧ Aside0 (w'.ownsRow w.heap.size 3 1 v7 (ends P).length (nums .i64 (ends P))) ∧ Aside0 (Below w.heap.size w w'))
  case atStart => exact ⟨[], rfl, by simp, by simp, ⟨by simp⟩, ⟨own_nil _ _ _ _⟩, ⟨own_nil _ _ _ _⟩, B1⟩
  case round =>
    clear B1 HB
    obtain ⟨P, rfl, hi, hk, PB, H, E, B⟩ := hrel
    obtain ⟨A6, c6, rfl, hc6⟩ := own_cap H.out
    obtain ⟨A7, c7, rfl⟩ := own_slice E.out
    obtain ⟨i, hil⟩ : ∃ i, P.length = i := ⟨_, rfl⟩
    have IL := Aside0.mk hil
    have CL : Aside0 ((cat P).length ≤ i * 68) := ⟨by rw [← hil]; exact cat_len P (fun x hx => (PB.out x hx).2)⟩
    have CB : Aside0 (bytes (cat P)) := ⟨cat_bytes P (fun x hx => (PB.out x hx).1)⟩
    have EL : Aside0 ((ends P).length = i) := ⟨by rw [ends_len, hil]⟩
    rw [hil] at hi hk ⊢
    clear hil
    cases gk with
    | zero => omega
    | succ k2 =>
      by_cases c1 : i < n ∧ i < 8
      · have d1 : decide (i < n) = true := decide_eq_true c1.1
        have d2 : decide ((i : Int) < 8) = true := decide_eq_true (by omega)
        have d3 : IntKind.i64.wrap ((i : Int) + 1) = (i : Int) + 1 := by rw [IntKind.wrap_i64]; omega
        obtain ⟨a, rfl, hcell⟩ := PP.out (by omega)
        obtain ⟨u, hu, hub⟩ := hcell i c1.1
        obtain ⟨Au, us, cu, rfl, hur, hubb, huc, hul⟩ := hub.form
        have cu0 : wr.cell? (a.add i) = some (.slice Au us.length cu) := (B.out.cell (World.block_lt_of_cell? w _ hu)).trans hu
        have UR := Aside0.mk hur
        have UB := Aside0.mk hubb
        obtain ⟨p, hp⟩ : ∃ p, us.take 60 = p := ⟨_, rfl⟩
        have pl : p.length ≤ 60 := by rw [← hp, List.length_take]; omega
        have PBB : Aside0 (bytes p) := ⟨hp ▸ bytes_take hubb 60⟩
        have HP := Aside0.mk hp
        have PL := Aside0.mk pl
        clear hu hub hur hubb hp pl
        go_wp2_with (first
          | ((with_reducible refine gate_callee (f := 17) rfl ?_); refine goesL_ (some 32) rfl rfl Try.func17 (by kernel_rfl) rfl #[.slice Au us.length cu, .int .i64 60] rfl (by (try simp only [List.map_toArray, List.map_cons, List.map_nil]); first | done | rfl) ?_; (with_reducible refine (short60 _ us.length cu Au us (UR.out.below B.out) hul huc).mono ?_); rintro e w2 ⟨v2, rfl, ⟨hV, _⟩, rfl⟩; rw [HP.out] at hV; refine ⟨_, rfl, ?_⟩; have V2 := Aside0.mk hV; clear hV)
          | ((with_reducible refine gate_callee (f := 22) rfl ?_); refine goesL_ (some 33) rfl rfl Try.func22 (by kernel_rfl) rfl #[v2] rfl (by (try simp only [List.map_toArray, List.map_cons, List.map_nil]); first | done | rfl) ?_; (with_reducible refine (frame_calls _ v2 p V2.out PBB.out (by have := PL.out; omega)).mono ?_); rintro e w3 ⟨v3, rfl, hH, hb⟩; refine ⟨_, rfl, ?_⟩; have H3 := Aside0.mk hH; have B3 := Aside0.mk (below_step B.out hb); have H10 := Aside0.mk (pw_own_below H.out hb); have E10 := Aside0.mk (pw_own_below E.out hb); obtain ⟨A3, c3, e3, R3⟩ := (RdB.of_has H3.out).ints (by rw [frm_len]; have := PL.out; omega); subst e3; have R3 := Aside0.mk R3; clear hH hb)
          | (at_builtin; (refine print_append_row w.heap.size rfl (.tmp 27) (.tmp 33) 27 5 .u8 1 rfl Try.underlying27 info5 (by decide) (.slice A6 (cat P).length c6) (cat P) (frm p) A3 (frm p).length c3 (by rfl) (by rfl) H10.out R3.out B3.out B3.out.size (by rw [frm_len]; have := PL.out; have := CL.out; omega) ?_); intro v6 w6 hown hb hg _; have O6 : Aside0 (HasB w6 w.heap.size v6 (cat P ++ frm p)) := ⟨hown⟩; have E6 := Aside0.mk (own_other E10.out hg (own_type_ne E10.out H10.out (by decide))); have B6 := Aside0.mk hb; clear hown hb hg; obtain ⟨A66, c66, rfl⟩ := own_slice O6.out)
          | (at_builtin; (refine print_append_num w.heap.size rfl (.tmp 35) (.tmp 38) 22 3 .i64 8 rfl Try.underlying22 info3 (by decide) (.slice A7 (ends P).length c7) (ends P) _ (by rfl) (by rfl) E6.out B6.out B6.out.size (by have := EL.out; omega) ?_); intro v8 w8 hown hb hg _; have E8 := Aside0.mk hown; have O8 := Aside0.mk (own_other O6.out hg (own_type_ne O6.out E6.out (by decide))); have B8 := Aside0.mk hb; clear hown hb hg))
        go_roundg k2
        case measure => omega
        case rel =>
          refine ⟨P ++ [p], by rw [List.length_append, IL.out]; simp, by rw [List.length_append, IL.out]; simp; omega, by rw [List.length_append, IL.out]; simp; omega, ⟨fun x hx => ?_⟩, ⟨?_⟩, ⟨?_⟩, B8⟩
          · rcases List.mem_append.1 hx with hx | hx
            · exact PB.out x hx
            · simp at hx
              subst hx
              exact ⟨PBB.out, PL.out⟩
          · rw [cat_app, show cat [p] = frm p by simp [cat]]
            rw [← List.length_append]
            exact O8.out
          · rw [ends_snoc]
            exact E8.out
      · have hf : decide (i < n) = false ∨ (decide (i < n) = true ∧ decide ((i : Int) < 8) = false) := by
          rcases Nat.lt_or_ge i n with h | h
          · exact .inr ⟨decide_eq_true (by omega), decide_eq_false (by omega)⟩
          · exact .inl (decide_eq_false (by omega))
        clear c1
        obtain ⟨Z, hZ⟩ : ∃ Z, cat P = Z := ⟨_, rfl⟩
        rw [hZ] at H CL CB hc6 ⊢
        have HZ := Aside0.mk hZ
        have ZL := CL.out
        obtain ⟨E', hE'⟩ : ∃ E', ends P = E' := ⟨_, rfl⟩
        rw [hE'] at E EL ⊢
        have HE := Aside0.mk hE'
        have ELn := EL.out
        obtain ⟨t, htl, htt⟩ : ∃ t : Nat, t ≤ Z.length ∧ ((cut < 0 ∨ (Z.length : Int) < cut) ∧ t = Z.length ∨ ¬ (cut < 0) ∧ ¬ ((Z.length : Int) < cut) ∧ cut = (t : Int)) := by
          by_cases h : cut < 0 ∨ (Z.length : Int) < cut
          · exact ⟨Z.length, Nat.le_refl _, .inl ⟨h, rfl⟩⟩
          · exact ⟨cut.toNat, by omega, .inr ⟨by omega, by omega, by omega⟩⟩
        obtain ⟨m, hm1, hm2, hm3⟩ := cut_at P t P.length (Nat.le_refl _)
        rw [IL.out] at hm1 hm3
        have M2 := Aside0.mk hm2
        have M3 := Aside0.mk hm3
        have TB : Aside0 (bytes (Z.take t)) := ⟨bytes_take CB.out t⟩
        have TL : Aside0 ((Z.take t).length = t) := ⟨by rw [List.length_take]; omega⟩
        have SC : Aside0 (Scanned (Z.take t) (P.take m) (pos P m)) := ⟨by
          rw [← hZ]
          exact cut_scanned P (fun x hx => ⟨(PB.out x hx).1, by have := (PB.out x hx).2; omega⟩) t m (by rw [hZ]; exact htl) (by rw [IL.out]; exact hm1) hm2 (by rw [IL.out]; exact hm3)⟩
        have HT : Aside0 (RdB wr (.slice A6 t c6) (Z.take t)) := ⟨by
          have := (RdB.of_has H.out).sub (at_ := 0) (k := t) (by omega)
          rw [List.drop_zero, Nat.sub_zero, show Option.map (fun x : Addr => x.add 0) A6 = A6 by cases A6 <;> simp [Addr.add]] at this
          exact this⟩
        have tb1 : (t : Int) ≤ (c6 : Int) := by omega
        have tb0 : t ≤ c6 := by omega
        clear hZ hE' hm2 hm3 hc6 ELn
        rcases htt with ⟨hcut, rfl⟩ | ⟨hc1, hc2, rfl⟩
        · have f : decide (cut < 0) = true ∨ (decide (cut < 0) = false ∧ decide ((Z.length : Int) < cut) = true) := by
            by_cases h : cut < 0
            · exact .inl (decide_eq_true h)
            · exact .inr ⟨decide_eq_false h, decide_eq_true (by omega)⟩
          clear hcut
          rcases hf with e1 | ⟨e1, e2⟩ <;> rcases f with f1 | ⟨f1, f2⟩
          all_goals
            go_wp2_with (first
              | ((with_reducible refine gate_callee (f := 24) rfl ?_); refine goesL_ (some 54) rfl rfl Try.func24 (by kernel_rfl) rfl #[.slice A6 Z.length c6] rfl (by (try simp only [List.map_toArray, List.map_cons, List.map_nil]); first | done | rfl) ?_; (refine (scan_callsM _ _ c6 Z.length _ HT.out TB.out (by have := TL.out; omega) (by omega)).mono ?_); rintro e wa ⟨va, G, a, rfl, hG, hS, hb⟩; refine ⟨_, rfl, ?_⟩; obtain ⟨hGM, rfl⟩ := SC.out.uniq hS; have hlen : G.length = m := (by have := congrArg List.length hGM; rw [List.length_take, List.length_map, IL.out] at this; omega); have RA := Aside0.mk hG; have BA := Aside0.mk (below_step B.out hb); have EA := Aside0.mk (pw_own_below E.out hb); clear hG hS hb hGM; obtain ⟨AG, cG, rfl⟩ := own_slice RA.out.row))
            go_loopg [11, 12, 13] 12 (fun kq v11 v12 v13 w' => ∃ j : Nat, v13 = .int .i64 (j : Nat) ∧ j ≤ i ∧ i - j < kq ∧ v11 = .int .i64 (min j m : Nat) ∧ v12 = .int .i64 (pos P (min j m) : Nat) ∧ Aside0 (Below wa.heap.size wa w'))
            case atStart => exact ⟨0, rfl, Nat.zero_le _, by omega, by simp, by simp [pos, cat], ⟨Below.refl _ _⟩⟩
            case round =>
              obtain ⟨j, rfl, hj, hjk, rfl, rfl, BJ⟩ := hrel
              cases gk with
              | zero => omega
              | succ k3 =>
                by_cases cj : j < i
                · have j1 : decide (j < E'.length) = true := decide_eq_true (by rw [EL.out]; exact cj)
                  have j2 : IntKind.i64.wrap ((j : Int) + 1) = (j : Int) + 1 := by rw [IntKind.wrap_i64]; omega
                  obtain ⟨ad, rfl, cell⟩ := ends_cell (EA.out) HE.out BJ.out (by rw [IL.out]; exact cj)
                  have i1 : (0 : Int) ≤ (j : Int) := by omega
                  have i2 : (j : Int) < (E'.length : Int) := by rw [EL.out]; omega
                  by_cases cm : j < m
                  · have le1 : pos P (j + 1) ≤ Z.length := by
                      have := pos_mono P (m - (j + 1)) (j + 1) (by rw [IL.out]; omega)
                      rw [show j + 1 + (m - (j + 1)) = m by omega] at this
                      exact Nat.le_trans this M2.out
                    have j3 : decide (pos P (j + 1) ≤ Z.length) = true := decide_eq_true le1
                    have j4 : decide ((pos P (j + 1) : Int) ≤ (Z.length : Int)) = true := decide_eq_true (by omega)
                    go_wp2
                    go_region
                    go_wp2
                    go_roundg k3
                    case measure => omega
                    case rel => exact ⟨j + 1, by simp, by omega, by omega, by rw [Nat.min_eq_left (by omega)]; simp, by rw [Nat.min_eq_left (by omega)], ⟨below_drew BJ.out⟩⟩
                  · have lt1 : Z.length < pos P (j + 1) := by
                      have h0 := M3.out (by omega)
                      have := pos_mono P (j - m) (m + 1) (by rw [IL.out]; omega)
                      rw [show m + 1 + (j - m) = j + 1 by omega] at this
                      omega
                    have j3 : decide (pos P (j + 1) ≤ Z.length) = false := decide_eq_false (by omega)
                    have j4 : decide ((pos P (j + 1) : Int) ≤ (Z.length : Int)) = false := decide_eq_false (by omega)
                    have mm : min j m = min (j + 1) m := by omega
                    have MM := Aside0.mk mm
                    clear mm
                    go_wp2
                    go_roundg k3
                    case measure => omega
                    case rel => exact ⟨j + 1, by simp, by omega, by omega, by rw [MM.out], by rw [MM.out], BJ⟩
                · have j1 : decide (j < E'.length) = false := decide_eq_false (by rw [EL.out]; omega)
                  have mm : min j m = m := by omega
                  rw [mm]
                  clear mm
                  go_wp2
                  go_ret
                  exact ⟨rfl, below_step BA.out BJ.out⟩
        · have f1 : decide ((t : Int) < 0) = false := decide_eq_false hc1
          have f2 : decide ((Z.length : Int) < (t : Int)) = false := decide_eq_false hc2
          rcases hf with e1 | ⟨e1, e2⟩
          all_goals
            go_wp2_with (first
              | ((with_reducible refine gate_callee (f := 24) rfl ?_); refine goesL_ (some 54) rfl rfl Try.func24 (by kernel_rfl) rfl #[.slice A6 t c6] rfl (by (try simp only [List.map_toArray, List.map_cons, List.map_nil]); first | done | rfl) ?_; (refine (scan_callsM _ _ c6 t _ HT.out TB.out (by have := TL.out; omega) (by omega)).mono ?_); rintro e wa ⟨va, G, a, rfl, hG, hS, hb⟩; refine ⟨_, rfl, ?_⟩; obtain ⟨hGM, rfl⟩ := SC.out.uniq hS; have hlen : G.length = m := (by have := congrArg List.length hGM; rw [List.length_take, List.length_map, IL.out] at this; omega); have RA := Aside0.mk hG; have BA := Aside0.mk (below_step B.out hb); have EA := Aside0.mk (pw_own_below E.out hb); clear hG hS hb hGM; obtain ⟨AG, cG, rfl⟩ := own_slice RA.out.row))
            go_loopg [11, 12, 13] 12 (fun kq v11 v12 v13 w' => ∃ j : Nat, v13 = .int .i64 (j : Nat) ∧ j ≤ i ∧ i - j < kq ∧ v11 = .int .i64 (min j m : Nat) ∧ v12 = .int .i64 (pos P (min j m) : Nat) ∧ Aside0 (Below wa.heap.size wa w'))
            case atStart => exact ⟨0, rfl, Nat.zero_le _, by omega, by simp, by simp [pos, cat], ⟨Below.refl _ _⟩⟩
            case round =>
              obtain ⟨j, rfl, hj, hjk, rfl, rfl, BJ⟩ := hrel
              cases gk with
              | zero => omega
              | succ k3 =>
                by_cases cj : j < i
                · have j1 : decide (j < E'.length) = true := decide_eq_true (by rw [EL.out]; exact cj)
                  have j2 : IntKind.i64.wrap ((j : Int) + 1) = (j : Int) + 1 := by rw [IntKind.wrap_i64]; omega
                  obtain ⟨ad, rfl, cell⟩ := ends_cell (EA.out) HE.out BJ.out (by rw [IL.out]; exact cj)
                  have i1 : (0 : Int) ≤ (j : Int) := by omega
                  have i2 : (j : Int) < (E'.length : Int) := by rw [EL.out]; omega
                  by_cases cm : j < m
                  · have le1 : pos P (j + 1) ≤ t := by
                      have := pos_mono P (m - (j + 1)) (j + 1) (by rw [IL.out]; omega)
                      rw [show j + 1 + (m - (j + 1)) = m by omega] at this
                      exact Nat.le_trans this M2.out
                    have j3 : decide (pos P (j + 1) ≤ t) = true := decide_eq_true le1
                    have j4 : decide ((pos P (j + 1) : Int) ≤ (t : Int)) = true := decide_eq_true (by omega)
                    go_wp2
                    go_region
                    go_wp2
                    go_roundg k3
                    case measure => omega
                    case rel => exact ⟨j + 1, by simp, by omega, by omega, by rw [Nat.min_eq_left (by omega)]; simp, by rw [Nat.min_eq_left (by omega)], ⟨below_drew BJ.out⟩⟩
                  · have lt1 : t < pos P (j + 1) := by
                      have h0 := M3.out (by omega)
                      have := pos_mono P (j - m) (m + 1) (by rw [IL.out]; omega)
                      rw [show m + 1 + (j - m) = j + 1 by omega] at this
                      omega
                    have j3 : decide (pos P (j + 1) ≤ t) = false := decide_eq_false (by omega)
                    have j4 : decide ((pos P (j + 1) : Int) ≤ (t : Int)) = false := decide_eq_false (by omega)
                    have mm : min j m = min (j + 1) m := by omega
                    have MM := Aside0.mk mm
                    clear mm
                    go_wp2
                    go_roundg k3
                    case measure => omega
                    case rel => exact ⟨j + 1, by simp, by omega, by omega, by rw [MM.out], by rw [MM.out], BJ⟩
                · have j1 : decide (j < E'.length) = false := decide_eq_false (by rw [EL.out]; omega)
                  have mm : min j m = m := by omega
                  rw [mm]
                  clear mm
                  go_wp2
                  go_ret
                  exact ⟨rfl, below_step BA.out BJ.out⟩
end Go.Proofs.Ytlfckoeolcnniaa.Net
