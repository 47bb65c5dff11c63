/- Walks of net: Send. -/
import Derived.Test.YtlfckoeolcnniaaNetB
namespace Go.Proofs.Ytlfckoeolcnniaa.Net
open Go.RowKit Go.Proofs.YtlfckoeolcnniaaW.PrintWords Go.Proofs.YtlfckoeolcnniaaW.PrintLast Go.Proofs.YtlfckoeolcnniaaW.PrintMore
set_option linter.unusedVariables false
set_option linter.unusedSimpArgs false
theorem own_shape {w : World} {base : Nat} {e : TypeId} {size : Nat} {v : Value} {n : Nat} {xs : List Value} (h : w.ownsRow base e size v n xs) : ∃ A c, v = .slice A n c := by
  rcases h.2 with ⟨e, h0⟩ | ⟨g, cap, cur, e, _⟩
  · exact ⟨_, _, by rw [e, h0]⟩
  · exact ⟨_, _, e⟩
/-- an own row at a later world -/
theorem own_below {w w' : World} {base : Nat} {e : TypeId} {size : Nat} {v : Value} {n : Nat} {xs : List Value} (h : w.ownsRow base e size v n xs) (hb : Below w.heap.size w w') : w'.ownsRow base e size v n xs :=
  own_kept h (KS.of_below hb (fun _ => False)) (fun _ _ h => h)
theorem delete_own (w : World) (base g cap : Nat) (M : List Gr) (i : Nat) (h : w.ownsRow base 61 2 (.slice (some ⟨g, 0, none⟩) M.length cap) M.length (flat M)) (h1 : ∀ u ∈ flat M, u.oneCell' = true) (hi : i < M.length) (x y : Int) (hx : x = i) (hy : y = (i + 1 : Nat)) :
    Calls Try.prog 36 #[.slice (some ⟨g, 0, none⟩) M.length cap, .int .i64 x, .int .i64 y] w fun e w' => e = .returned (.slice (some ⟨g, 0, none⟩) (M.length - 1) cap) ∧ w'.ownsRow base 61 2 (.slice (some ⟨g, 0, none⟩) (M.length - 1) cap) (M.length - 1) (flat (M.eraseIdx i)) ∧ KS w w' (fun k => k = g) := by
  subst hx; subst hy
  rcases h.2 with ⟨_, h0⟩ | ⟨g', cap', cur, e, hbg, hg, hle, hm, hs, ht⟩
  · omega
  · injection e with e1 e2 e3
    injection e1 with e1
    injection e1 with e1
    subst e1; subst e3
    refine (delete_calls g M.length cap i cur w hg hs hle hm hi (by rw [ht]; exact h1)).mono ?_
    rintro e w' ⟨rfl, ⟨cur', hn1, hn2, hn3⟩, hk⟩
    have le : (M.eraseIdx i).length = M.length - 1 := by rw [List.length_eraseIdx, if_pos hi]
    refine ⟨rfl, ⟨by rw [flat_len, le], .inr ⟨g, cap, cur', rfl, hbg, hn1, by omega, hm, hn2, ?_⟩⟩, hk⟩
    rw [hn3, ht, List.eraseIdx_eq_take_drop_succ, flat_app, flat_take, flat_drop, ← ht, List.take_take]
    rw [show min (i * 2) (M.length * 2) = i * 2 by omega]
theorem own_ne {w : World} {base p g n cap : Nat} {L : List Gr} (h : NetHas w base p (.slice (some ⟨g, 0, none⟩) n cap) L) : g ≠ p := by
  obtain ⟨_, cs, hg⟩ := own_blk h.row (k := g) rfl
  exact blk_ne hg h.blk (by decide)
/-- what is so behind the append and the store -/
theorem sent {w w1 w2 : World} {base p g cap c : Nat} {A : Option Addr} {L : List Gr} {d : Int} {vc : Value} {bs : List Int} {o : Obj} (hN : NetHas w base p (.slice A L.length c) L) (hb : base ≤ w.heap.size) (h3 : HasB w1 w.heap.size vc bs) (h4 : Below w.heap.size w w1)
    (z0 : w2.heap[p]? = some (.cells #[.slice A L.length c] 59 (0, 0)))
    (z1 : w2.ownsRow base 61 2 (.slice (some ⟨g, 0, none⟩) (L.length + 1) cap) (L.length + 1) (flat L ++ [.int .i64 d, vc])) (z2 : (w1.alloc o).grownBy w2 (Value.slice A L.length c).ownBlock) (z3 : (Value.slice A L.length c).ownBlock = some g ∨ g = (w1.alloc o).heap.size) {w3 : World} (e : w2.setCell ⟨p, 0, none⟩ (.slice (some ⟨g, 0, none⟩) (L.length + 1) cap) = w3) :
    NetHas w3 base p (.slice (some ⟨g, 0, none⟩) (L.length + 1) cap) (L ++ [(d, vc, bs)]) ∧ HasB w3 w.heap.size vc bs ∧ KS w w3 (fun i => i = p ∨ (Value.slice A L.length c).ownBlock = some i) ∧ ((Value.slice (some ⟨g, 0, none⟩) (L.length + 1) cap).ownBlock = (Value.slice A L.length c).ownBlock ∨ ∃ k, (Value.slice (some ⟨g, 0, none⟩) (L.length + 1) cap).ownBlock = some k ∧ w.heap.size ≤ k) := by
  subst e
  obtain ⟨_, cg, hg⟩ := own_blk z1 (k := g) rfl
  have hgp : g ≠ p := blk_ne hg z0 (by decide)
  have K0 : KS w1 w2 (fun i => (Value.slice A L.length c).ownBlock = some i) := KS.of_grown z2 ((KS.refl w1 _).alloc o) (fun k hk => .inl hk)
  have K1 : KS w1 (w2.setCell ⟨p, 0, none⟩ (.slice (some ⟨g, 0, none⟩) (L.length + 1) cap)) (fun i => i = p ∨ (Value.slice A L.length c).ownBlock = some i) := by
    have K01 : KS w1 w2 (fun i => i = p ∨ (Value.slice A L.length c).ownBlock = some i) := K0.mono (fun k h => Or.inr h)
    exact K01.setCell (p := ⟨p, 0, none⟩) (.inl (.inl rfl)) _
  have K : KS w (w2.setCell ⟨p, 0, none⟩ (.slice (some ⟨g, 0, none⟩) (L.length + 1) cap)) (fun i => i = p ∨ (Value.slice A L.length c).ownBlock = some i) := (KS.of_below h4 _).then_ K1 (fun k h => .inl h)
  have S0 : ∀ k, (k = p ∨ (Value.slice A L.length c).ownBlock = some k) → ∃ cs t, w.heap[k]? = some (.cells cs t (0, 0)) ∧ t ≠ 5 := fun k hk => by
    rcases hk with rfl | hk
    · exact ⟨_, _, hN.blk, by decide⟩
    · obtain ⟨_, cs, h⟩ := own_blk hN.row hk
      exact ⟨_, _, h, by decide⟩
  have S1 : ∀ k, (k = p ∨ (Value.slice A L.length c).ownBlock = some k) → ∃ cs t, w1.heap[k]? = some (.cells cs t (0, 0)) ∧ t ≠ 5 := fun k hk => by
    obtain ⟨cs, t, h, ht⟩ := S0 k hk
    exact ⟨cs, t, blk_below h h4, ht⟩
  have n1 := hasB_far h3 K1 S1
  refine ⟨⟨hN.le, blk_put z0 0 _ rfl, ?_, ?_⟩, n1, K, ?_⟩
  · have q := own_kept z1 ((KS.refl w2 (fun i => i = p)).setCell (p := ⟨p, 0, none⟩) (.inl rfl) (.slice (some ⟨g, 0, none⟩) (L.length + 1) cap)) (fun k hk e => hgp (by rw [← e]; injection hk))
    rw [flat_app, List.length_append]
    exact q
  · intro x hx
    rcases List.mem_append.1 hx with hx | hx
    · exact hasB_far (hN.els x hx) K S0
    · simp at hx
      subst hx
      exact own_mono n1 hb
  · rcases z3 with h | h
    · exact .inl h.symm
    · refine .inr ⟨g, rfl, ?_⟩
      rw [h]
      exact Nat.le_trans (below_size h4) (by simp)
/-- what is so behind the cut and the store -/
theorem cutted {w w3 w4 : World} {base p g cap c : Nat} {A : Option Addr} {n : Nat} {M : List Gr} {vc : Value} {bs : List Int} (hm : 0 < M.length)
    (N : NetHas w3 base p (.slice (some ⟨g, 0, none⟩) M.length cap) M ∧ HasB w3 w.heap.size vc bs ∧ KS w w3 (fun i => i = p ∨ (Value.slice A n c).ownBlock = some i) ∧ ((Value.slice (some ⟨g, 0, none⟩) M.length cap).ownBlock = (Value.slice A n c).ownBlock ∨ ∃ k, (Value.slice (some ⟨g, 0, none⟩) M.length cap).ownBlock = some k ∧ w.heap.size ≤ k))
    (hr : w4.ownsRow base 61 2 (.slice (some ⟨g, 0, none⟩) (M.length - 1) cap) (M.length - 1) (flat (M.eraseIdx 0))) (hk : KS w3 w4 (fun k => k = g)) {w5 : World} (e : w4.setCell ⟨p, 0, none⟩ (.slice (some ⟨g, 0, none⟩) (M.length - 1) cap) = w5) :
    NetHas w5 base p (.slice (some ⟨g, 0, none⟩) (M.length - 1) cap) (M.eraseIdx 0) ∧ HasB w5 w.heap.size vc bs ∧ KS w w5 (fun i => i = p ∨ (Value.slice A n c).ownBlock = some i) ∧ ((Value.slice (some ⟨g, 0, none⟩) (M.length - 1) cap).ownBlock = (Value.slice A n c).ownBlock ∨ ∃ k, (Value.slice (some ⟨g, 0, none⟩) (M.length - 1) cap).ownBlock = some k ∧ w.heap.size ≤ k) := by
  subst e
  obtain ⟨hN, hB, hK, hO⟩ := N
  obtain ⟨_, cg, hg⟩ := own_blk hN.row (k := g) rfl
  have hgp : g ≠ p := blk_ne hg hN.blk (by decide)
  have hp4 := blk_ks hN.blk hk (fun e => hgp e.symm)
  have le : (M.eraseIdx 0).length = M.length - 1 := by rw [List.length_eraseIdx, if_pos hm]
  have K3 : KS w3 (w4.setCell ⟨p, 0, none⟩ (.slice (some ⟨g, 0, none⟩) (M.length - 1) cap)) (fun i => i = p ∨ i = g) := by
    have k0 : KS w3 w4 (fun i => i = p ∨ i = g) := hk.mono (fun k h => Or.inr h)
    exact k0.setCell (p := ⟨p, 0, none⟩) (.inl (.inl rfl)) _
  have S3 : ∀ k, (k = p ∨ k = g) → ∃ cs t, w3.heap[k]? = some (.cells cs t (0, 0)) ∧ t ≠ 5 := fun k hk => by
    rcases hk with rfl | rfl
    · exact ⟨_, _, hN.blk, by decide⟩
    · exact ⟨_, _, hg, by decide⟩
  refine ⟨⟨hN.le, blk_put hp4 0 _ rfl, ?_, ?_⟩, hasB_far hB K3 S3, ?_, ?_⟩
  · rw [le]
    exact own_kept hr ((KS.refl w4 (fun i => i = p)).setCell (p := ⟨p, 0, none⟩) (.inl rfl) _) (fun k hk e => hgp (by rw [← e]; injection hk))
  · intro x hx
    exact hasB_far (hN.els x (List.mem_of_mem_eraseIdx hx)) K3 S3
  · refine hK.then_ K3 (fun k h => ?_)
    rcases h with rfl | rfl
    · exact .inl (.inl rfl)
    · rcases hO with h | ⟨k', h, hle⟩
      · exact .inl (.inr h.symm)
      · right
        injection h with h
        rw [show k = k' from h]
        exact hle
  · exact hO
set_option maxHeartbeats 4000000 in
set_option maxRecDepth 100000 in
theorem send_calls (w : World) (base p : Nat) (v vb : Value) (L : List Gr) (bs : List Int) (d : Int) (h : NetHas w base p v L) (hb : base ≤ w.heap.size) (hl : L.length ≤ 256) (hB : RdB w vb bs) (hbl : bs.length ≤ 1000000) :
    Calls Try.prog 14 #[.pointer (some ⟨p, 0, none⟩), .int .i64 d, vb] w fun e w' => e = .returned (.tuple #[]) ∧ ∃ v' vc, NetHas w' base p v' ((L ++ [(d, vc, bs)]).drop (L.length + 1 - 256)) ∧ HasB w' w.heap.size vc bs ∧ KS w w' (fun i => i = p ∨ v.ownBlock = some i) ∧ (v'.ownBlock = v.ownBlock ∨ ∃ k, v'.ownBlock = some k ∧ w.heap.size ≤ k) := by
  obtain ⟨i0, hi, hz0, hz1, hz2⟩ := info_parts info61
  obtain ⟨A, c, rfl⟩ := own_shape h.row
  obtain ⟨Ab, cb, rfl⟩ : ∃ Ab cb, vb = .slice Ab bs.length cb := by obtain ⟨A, c, e, _⟩ := hB; exact ⟨A, c, e⟩
  have e0 : w.drew.cell? ⟨p, 0, none⟩ = some (.slice A L.length c) := (blk_cell h.blk 0).trans rfl
  have X := Aside0.mk h
  have X1 : Aside0 (w.drew.heap[p]? = some (.cells #[.slice A L.length c] 59 (0, 0))) := ⟨h.blk⟩
  have X2 : Aside0 (w.drew.ownsRow base 61 2 (.slice A L.length c) L.length (flat L)) := ⟨h.row⟩
  have XB : Aside0 (RdB w.drew (.slice Ab bs.length cb) bs) := ⟨hB⟩
  have XN : Aside0 (¬ (Value.slice A L.length c).ownBlock = some p) := ⟨fun e => by obtain ⟨_, cs, hh⟩ := own_blk h.row e; exact blk_ne hh h.blk (by decide) rfl⟩
  clear h hB
  go_enter Try.func14, Try.ntmps14
  go_wp2_with fail
  go_region_law (first
    | (refine goes_ Try.func35 (by kernel_rfl) rfl #[.slice Ab bs.length cb] (by rfl) rfl rfl (by (try simp only [List.map_toArray, List.map_cons, List.map_nil]); first | done | rfl) ?_; refine (clone_calls (.slice Ab bs.length cb) bs _ XB.out hbl).mono ?_; rintro e w1 ⟨vc, rfl, hc, hbel⟩; obtain ⟨Ac, cc, rfl⟩ := own_shape hc; refine ⟨.slice Ac bs.length cc, rfl, ?_⟩; have Y1 := Aside0.mk (blk_below X1.out hbel); have Y2 := Aside0.mk (own_below X2.out hbel); have Y3 := Aside0.mk hc; have Y4 := Aside0.mk (below_step (below_drew1 (Below.refl w.heap.size w)) hbel); have e1 : w1.cell? ⟨p, 0, none⟩ = some (.slice A L.length c) := (blk_cell Y1.out 0).trans rfl; have e2 : ∀ o, (w1.alloc o).cell? ⟨p, 0, none⟩ = some (.slice A L.length c) := (fun o => Lib.cell?_alloc_some o e1); clear hc hbel)
    | (refine step_append_lies _ rfl (.tmp 12) (.tmp 17) 57 rfl base 61 i0 _ 2 32 Try.underlying57 hi hz0 hz1 hz2 rfl (by decide) (.slice A L.length c) L.length (flat L) (by simp [Act.eval, Act.put]) (Y2.out.alloc _) ⟨w1.heap.size, 0, none⟩ 1 1 [.int .i64 d, .slice Ac bs.length cc] (by simp [Act.eval, Act.put]) rfl ?n1 ?n2 (by decide) ?n3 ?n4 ?n5 _ rfl ?_; (case n1 => exact World.news_of_block (blk_new w1 _)); (case n2 => intro u hu; simp at hu; rcases hu with rfl | rfl <;> rfl); (case n3 => unfold maxLen; omega); (case n4 => omega); (case n5 => exact Nat.le_trans hb (below_size (below_alloc Y4.out _))); intro g cap w2 hown hgrow hat hlt; have Z1 := Aside0.mk (blk_grown (blk_alloc Y1.out _) hgrow (fun e => XN.out e.symm)); have z1 := (blk_cell Z1.out 0).trans rfl; have z2 := blk_frozen Z1.out 0; have ZZ := Aside0.mk (And.intro hown (And.intro hgrow (And.intro hat hlt))); clear hown hgrow hat hlt))
  all_goals (
    obtain ⟨w3, hw3⟩ : ∃ w3, w2.setCell ⟨p, 0, none⟩ (.slice (some ⟨g, 0, none⟩) (L.length + 1) cap) = w3 := ⟨_, rfl⟩
    have N := Aside0.mk (sent X.out hb Y3.out Y4.out Z1.out ZZ.out.1 ZZ.out.2.1 ZZ.out.2.2.1 hw3)
    rw [hw3]
    clear hw3 z1 z2 e1 e2 e0
    have u0 : w3.cell? ⟨p, 0, none⟩ = some (.slice (some ⟨g, 0, none⟩) (L.length + 1) cap) := (blk_cell N.out.1.blk 0).trans rfl
    have u1 : w3.frozen? ⟨p, 0, none⟩ = false := blk_frozen N.out.1.blk 0
    by_cases cL : L.length + 1 ≤ 256
    · have q1 : decide ((256 : Int) < ((L.length + 1 : Nat) : Int)) = false := decide_eq_false (by omega)
      go_wp2
      go_end0
      refine ⟨rfl, _, Value.slice Ac bs.length cc, ?_, N.out.2.1, N.out.2.2.1, N.out.2.2.2⟩
      rw [show L.length + 1 - 256 = 0 by omega, List.drop_zero]
      exact N.out.1
    · have q1 : decide ((256 : Int) < ((L.length + 1 : Nat) : Int)) = true := decide_eq_true (by omega)
      have NL : (L ++ [(d, Value.slice Ac bs.length cc, bs)]).length = L.length + 1 := by simp
      have NR := N.out.1.row
      rw [NL] at NR
      rw [← NL] at NR
      have NR0 := Aside0.mk NR
      clear NR
      go_wp2_with (first
        | ((with_reducible refine gate_callee (f := 36) rfl ?_); refine goesL_ (some 32) rfl rfl Try.func36 (by kernel_rfl) rfl #[.slice (some ⟨g, 0, none⟩) (L.length + 1) cap, .int .i64 0, .int .i64 1] rfl (by (try simp only [List.map_toArray, List.map_cons, List.map_nil]); first | done | rfl) ?_; rw [← NL]; (with_reducible refine (delete_own _ base g cap _ 0 NR0.out (flat_one _ N.out.1.els) (by omega) 0 1 rfl rfl).mono ?_); rintro e w4 ⟨rfl, hr4, hk4⟩; refine ⟨_, rfl, ?_⟩; have x4 := (blk_ks N.out.1.blk hk4 (fun e => own_ne N.out.1 e.symm)); have v0 := (blk_cell x4 0).trans rfl; have v1 := blk_frozen x4 0; rw [NL] at hr4 ⊢; have R4 := Aside0.mk (And.intro hr4 hk4); clear hr4 hk4))
      go_end0
      have N' : NetHas w3 base p (.slice (some ⟨g, 0, none⟩) (L ++ [(d, Value.slice Ac bs.length cc, bs)]).length cap) (L ++ [(d, Value.slice Ac bs.length cc, bs)]) ∧ HasB w3 w.heap.size (Value.slice Ac bs.length cc) bs ∧ KS w w3 (fun i => i = p ∨ (Value.slice A L.length c).ownBlock = some i) ∧ ((Value.slice (some ⟨g, 0, none⟩) (L ++ [(d, Value.slice Ac bs.length cc, bs)]).length cap).ownBlock = (Value.slice A L.length c).ownBlock ∨ ∃ k, (Value.slice (some ⟨g, 0, none⟩) (L ++ [(d, Value.slice Ac bs.length cc, bs)]).length cap).ownBlock = some k ∧ w.heap.size ≤ k) := by rw [NL]; exact N.out
      have F := cutted (by rw [NL]; omega) N' (by rw [NL]; exact R4.out.1) R4.out.2 rfl
      rw [NL] at F
      refine ⟨rfl, _, Value.slice Ac bs.length cc, ?_, F.2.1, F.2.2.1, F.2.2.2⟩
      rw [show L.length + 1 - 256 = 1 by omega, List.drop_one, ← List.eraseIdx_zero]
      exact F.1)
end Go.Proofs.Ytlfckoeolcnniaa.Net
