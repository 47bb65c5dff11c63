/- Walks of net: Clear. -/
import Derived.Test.YtlfckoeolcnniaaNetI
namespace Go.Proofs.Ytlfckoeolcnniaa.Net
open Go.RowKit Go.Proofs.YtlfckoeolcnniaaW.PrintWords Go.Proofs.YtlfckoeolcnniaaW.PrintLast Go.Proofs.YtlfckoeolcnniaaW.PrintMore
set_option linter.unusedVariables false
set_option linter.unusedSimpArgs false
structure Cleared (w w' : World) (base p : Nat) (v : Value) (k : Int) (L : List Gr) : Prop where
  out : ∃ v', NetHas w' base p v' (keepG k L) ∧ v'.ownBlock = v.ownBlock
  ks : KS w w' (fun i => i = p ∨ v.ownBlock = some i)
set_option maxHeartbeats 8000000 in
set_option maxRecDepth 100000 in
theorem clear_some (w : World) (base p g cap : Nat) (L : List Gr) (k : Int) (h : NetHas w base p (.slice (some ⟨g, 0, none⟩) L.length cap) L) (hl : L.length ≤ 1000) :
    Calls Try.prog 20 #[.pointer (some ⟨p, 0, none⟩), .int .i64 k] w fun e w' => e = .returned (.int .i64 ((L.length : Int) - ((keepG k L).length : Int))) ∧ Cleared w w' base p (.slice (some ⟨g, 0, none⟩) L.length cap) k L := by
  have hmf : ∀ (fn : Fn) (first cp : Array Value) (w : World), (Instr.makeFunc fn first cp).run Try.prog w = .ok (.func fn first cp) w := fun _ _ _ _ => rfl
  have H := Aside0.mk h
  have hle : (keepG k L).length ≤ L.length := List.length_filter_le _ _
  have hw1 : IntKind.i64.wrap ((L.length : Int) - ((keepG k L).length : Int)) = (L.length : Int) - ((keepG k L).length : Int) := by rw [IntKind.wrap_i64]; omega
  have P0 := Aside0.mk h.blk
  have d0 : ∀ o, (w.alloc o).cell? ⟨p, 0, none⟩ = some (.slice (some ⟨g, 0, none⟩) L.length cap) := fun o => (blk_cell (blk_alloc P0.out o) 0).trans rfl
  clear h
  go_enter Try.func20, Try.ntmps20
  have hcs : ∃ cur : Array Value, Aside0 (w.heap[g]? = some (.cells cur 61 (0, 0))) ∧ Aside0 (cur.size = cap * 2) ∧ Aside0 (cur.toList.take (L.length * 2) = flat L) ∧ L.length ≤ cap ∧ Aside0 (cap ≤ maxLen) ∧ base ≤ g := by
    rcases H.out.row.2 with ⟨h, _⟩ | ⟨g', cap', cur, e, hb, hg, h1, h2, h3, h4⟩
    · cases h
    · injection e with e1 e2 e3
      injection e1 with e1
      injection e1 with e1 _ _
      subst e1
      subst e3
      exact ⟨cur, ⟨hg⟩, ⟨h3⟩, ⟨h4⟩, h1, ⟨h2⟩, hb⟩
  obtain ⟨cur, HG, HS, HT, hn, HM, hbg⟩ := hcs
  have Q0 : Aside0 ((w.alloc (.cells #[.int .i64 k] 3)).heap[w.heap.size]? = some (.cells #[.int .i64 k] 3 (0, 0))) := ⟨blk_new w _⟩
  have hsl : Aside0 (∀ x ∈ L, ∃ A n c, x.2.1 = .slice A n c) := ⟨fun x hx => by
    rcases (H.out.els _ hx).2 with ⟨e, _⟩ | ⟨g, cap, cur, e, _⟩
    · exact ⟨_, _, _, e⟩
    · exact ⟨_, _, _, e⟩⟩
  go_wp2_with (first
    | ((with_reducible refine gate_callee (f := 15) rfl ?_); refine goesL_ (some 7) rfl rfl Try.func15 (by kernel_rfl) rfl #[.pointer (some ⟨p, 0, none⟩)] rfl (by (try simp only [List.map_toArray, List.map_cons, List.map_nil]); first | done | rfl) ?_; (refine (len_calls (w.alloc (.cells #[.int .i64 k] 3)) p L.length cap (some ⟨g, 0, none⟩) (blk_alloc P0.out _)).mono ?_); rintro e w5 ⟨rfl, hw⟩; rw [hw]; clear hw w5; refine ⟨_, rfl, ?_⟩)
    | ((with_reducible refine gate_callee (f := 15) rfl ?_); refine goesL_ (some 21) rfl rfl Try.func15 (by kernel_rfl) rfl #[.pointer (some ⟨p, 0, none⟩)] rfl (by (try simp only [List.map_toArray, List.map_cons, List.map_nil]); first | done | rfl) ?_; (refine (len_calls (w1.setCell ⟨p, 0, none⟩ (.slice (some ⟨g, 0, none⟩) (keepG k L).length cap)) p (keepG k L).length cap (some ⟨g, 0, none⟩) (blk_put P1.out 0 _ rfl)).mono ?_); rintro e w5 ⟨rfl, hw⟩; rw [hw]; clear hw w5; refine ⟨_, rfl, ?_⟩)
    | ((with_reducible refine gate_callee (f := 37) rfl ?_); refine goesL_ (some 16) rfl rfl Try.func37 (by kernel_rfl) rfl #[.slice (some ⟨g, 0, none⟩) L.length cap, .func (.func 38) #[] #[.pointer (some ⟨w.heap.size, 0, none⟩)]] rfl (by (try simp only [List.map_toArray, List.map_cons, List.map_nil]); first | done | rfl) ?_; (refine (delfunc_calls (w.alloc (.cells #[.int .i64 k] 3)) w.heap.size g cap cur L k Q0.out (blk_alloc HG.out _) HS.out hn HM.out HT.out hl hsl.out).mono ?_); rintro e w1 ⟨rfl, hD⟩; refine ⟨_, rfl, ?_⟩; have D1 := Aside0.mk hD; have P1 := Aside0.mk (blk_ks (blk_alloc P0.out _) hD.ks (fun e => blk_ne P0.out HG.out (by decide) e)); have f1 := blk_frozen P1.out 0; have y1 := (blk_cell P1.out 0).trans rfl; clear hD))
  have gp : g ≠ p := fun e => blk_ne HG.out P0.out (by decide) e
  have KA : KS w (w1.setCell ⟨p, 0, none⟩ (.slice (some ⟨g, 0, none⟩) (keepG k L).length cap)) (fun i => i = p ∨ i = g) := (((KS.refl w (fun i => i = p ∨ i = g)).alloc _).then_ D1.out.ks (fun k h => .inl (.inr h))).setCell (p := ⟨p, 0, none⟩) (.inl (.inl rfl)) _
  obtain ⟨cur', h1, h2, h3⟩ := D1.out.out
  have fl := flat_len (keepG k L)
  go_ret
  refine ⟨rfl, ⟨⟨_, ⟨H.out.le, blk_put P1.out 0 _ rfl, ⟨by rw [fl], .inr ⟨g, cap, cur', rfl, hbg, blk_ks h1 ((KS.refl w1 (fun i => i = p)).setCell (p := ⟨p, 0, none⟩) (.inl rfl) _) gp, by omega, HM.out, h2, h3⟩⟩, fun x hx => hasB_far (H.out.els x (List.mem_filter.1 hx).1) KA ?_⟩, rfl⟩, KA.mono ?_⟩⟩
  · rintro i (h | h)
    · exact ⟨_, _, by rw [h]; exact P0.out, by decide⟩
    · exact ⟨_, _, by rw [h]; exact HG.out, by decide⟩
  · rintro i (h | h)
    · exact .inl h
    · exact .inr (by rw [h]; rfl)
set_option maxHeartbeats 8000000 in
set_option maxRecDepth 100000 in
theorem clear_none (w : World) (base p : Nat) (k : Int) (h : NetHas w base p (.slice none 0 0) []) :
    Calls Try.prog 20 #[.pointer (some ⟨p, 0, none⟩), .int .i64 k] w fun e w' => e = .returned (.int .i64 0) ∧ Cleared w w' base p (.slice none 0 0) k [] := by
  have hmf : ∀ (fn : Fn) (first cp : Array Value) (w : World), (Instr.makeFunc fn first cp).run Try.prog w = .ok (.func fn first cp) w := fun _ _ _ _ => rfl
  have H := Aside0.mk h
  have d0 : ∀ o, (w.alloc o).cell? ⟨p, 0, none⟩ = some (.slice none 0 0) := fun o => (blk_cell (blk_alloc H.out.blk o) 0).trans rfl
  have d1 : ∀ o, (w.alloc o).frozen? ⟨p, 0, none⟩ = false := fun o => blk_frozen (blk_alloc H.out.blk o) 0
  clear h
  go_enter Try.func20, Try.ntmps20
  go_wp2
  go_loopg [8] 2 (fun kq v8 w' => v8 = .int .i64 0 ∧ w' = w.alloc (.cells #[.int .i64 k] 3))
  case atStart => exact ⟨rfl, rfl⟩
  case round =>
    obtain ⟨rfl, rfl⟩ := hrel
    go_wp2
    go_ret
    have KA : KS w ((w.alloc (.cells #[.int .i64 k] 3)).setCell ⟨p, 0, none⟩ (.slice none 0 0)) (fun i => i = p ∨ (Value.slice none 0 0).ownBlock = some i) := ((KS.refl w _).alloc _).setCell (p := ⟨p, 0, none⟩) (.inl (.inl rfl)) _
    exact ⟨rfl, ⟨⟨.slice none 0 0, ⟨H.out.le, blk_put (blk_alloc H.out.blk _) 0 _ rfl, own_nil _ _ _ _, fun x hx => by cases hx⟩, rfl⟩, KA⟩⟩
theorem clear_calls (w : World) (base p : Nat) (v : Value) (L : List Gr) (k : Int) (h : NetHas w base p v L) (hl : L.length ≤ 1000) :
    Calls Try.prog 20 #[.pointer (some ⟨p, 0, none⟩), .int .i64 k] w fun e w' => e = .returned (.int .i64 ((L.length : Int) - ((keepG k L).length : Int))) ∧ Cleared w w' base p v k L := by
  rcases h.row.2 with ⟨hv, h0⟩ | ⟨g, cap, cur, hv, _⟩
  · obtain rfl := List.eq_nil_of_length_eq_zero h0
    subst hv
    exact clear_none w base p k h
  · subst hv
    exact clear_some w base p g cap L k h hl
end Go.Proofs.Ytlfckoeolcnniaa.Net
