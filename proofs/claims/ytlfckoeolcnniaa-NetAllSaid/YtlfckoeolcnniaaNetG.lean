/- Walks of net: Drop, Double. -/
import Derived.Test.YtlfckoeolcnniaaNetF
import Derived.Test.YtlfckoeolcnniaaNetC
namespace Go.Proofs.Ytlfckoeolcnniaa.Net
open Go.RowKit Go.Proofs.YtlfckoeolcnniaaW.PrintWords Go.Proofs.YtlfckoeolcnniaaW.PrintLast Go.Proofs.YtlfckoeolcnniaaW.PrintMore
set_option linter.unusedVariables false
set_option linter.unusedSimpArgs false
set_option maxHeartbeats 4000000 in
set_option maxRecDepth 100000 in
theorem drop_out (w : World) (p n c : Nat) (A : Option Addr) (k : Int) (hb : w.heap[p]? = some (.cells #[.slice A n c] 59 (0, 0))) (hk : k < 0 ∨ (n : Int) ≤ k) :
    Calls Try.prog 18 #[.pointer (some ⟨p, 0, none⟩), .int .i64 k] w fun e w' => e = .returned (.bool false) ∧ w' = w := by
  go_enter Try.func18, Try.ntmps18
  go_wp2_with (first
    | ((with_reducible refine gate_callee (f := 16) rfl ?_); refine goesL_ (some 11) rfl rfl Try.func16 (by kernel_rfl) rfl #[.pointer (some ⟨p, 0, none⟩), .int .i64 k] rfl (by (try simp only [List.map_toArray, List.map_cons, List.map_nil]); first | done | rfl) ?_; (refine (take_out w p n c A k hb hk).mono ?_); rintro e w1 ⟨rfl, hw⟩; rw [hw]; clear hw w1; refine ⟨_, rfl, ?_⟩))
  go_ret
  exact ⟨rfl, rfl⟩
set_option maxHeartbeats 4000000 in
set_option maxRecDepth 100000 in
theorem drop_calls (w : World) (base p : Nat) (v : Value) (L : List Gr) (k : Nat) (x : Gr) (h : NetHas w base p v L) (hb : base ≤ w.heap.size) (hl : L.length ≤ 1000) (hx : L[k]? = some x) :
    Calls Try.prog 18 #[.pointer (some ⟨p, 0, none⟩), .int .i64 (k : Int)] w fun e w' => e = .returned (.bool true) ∧ ∃ v', NetHas w' base p v' (L.eraseIdx k) ∧ KS w w' (fun i => i = p ∨ v.ownBlock = some i) ∧ v'.ownBlock = v.ownBlock := by
  have HN := Aside0.mk h
  have HX := Aside0.mk hx
  clear h hx
  go_enter Try.func18, Try.ntmps18
  go_wp2_with (first
    | ((with_reducible refine gate_callee (f := 16) rfl ?_); refine goesL_ (some 11) rfl rfl Try.func16 (by kernel_rfl) rfl #[.pointer (some ⟨p, 0, none⟩), .int .i64 (k : Int)] rfl (by (try simp only [List.map_toArray, List.map_cons, List.map_nil]); first | done | rfl) ?_; (refine (take_calls w base p v L k x HN.out hb hl HX.out (k : Int) rfl).mono ?_); rintro e w1 ⟨rfl, v', h1, h2, h3, h4⟩; refine ⟨_, rfl, ?_⟩; have N1 := Aside0.mk h1; have K1 := Aside0.mk h2; have O1 := Aside0.mk h3; clear h1 h2 h3 h4))
  go_ret
  exact ⟨rfl, v', N1.out, K1.out, O1.out⟩
set_option maxHeartbeats 4000000 in
set_option maxRecDepth 100000 in
theorem double_out (w : World) (p n c : Nat) (A : Option Addr) (k : Int) (hb : w.heap[p]? = some (.cells #[.slice A n c] 59 (0, 0))) (hk : k < 0 ∨ (n : Int) ≤ k) :
    Calls Try.prog 19 #[.pointer (some ⟨p, 0, none⟩), .int .i64 k] w fun e w' => e = .returned (.bool false) ∧ w' = w := by
  by_cases c : k < 0
  · go_enter Try.func19, Try.ntmps19
    go_wp2
    go_ret
    exact ⟨rfl, rfl⟩
  · have c1 : (n : Int) ≤ k := by omega
    have c2 := decide_eq_false c
    clear hk
    go_enter Try.func19, Try.ntmps19
    go_wp2_with (first
      | ((with_reducible refine gate_callee (f := 15) rfl ?_); (try (refine gate_guard (by rfl) ?_; dsimp only)); refine goesL_ (some 11) rfl rfl Try.func15 (by kernel_rfl) rfl #[.pointer (some ⟨p, 0, none⟩)] rfl (by (try simp only [List.map_toArray, List.map_cons, List.map_nil]); first | done | rfl) ?_; (refine (len_calls _ p n _ A hb).mono ?_); rintro e w1 ⟨rfl, hw⟩; rw [hw]; clear hw w1; refine ⟨_, rfl, ?_⟩))
    go_ret
    exact ⟨rfl, rfl⟩
structure Doubled (w w' : World) (base p : Nat) (v : Value) (L : List Gr) (x : Gr) : Prop where
  out : ∃ v' vc, NetHas w' base p v' ((L ++ [(x.1, vc, x.2.2)]).drop (L.length + 1 - 256)) ∧ KS w w' (fun i => i = p ∨ v.ownBlock = some i) ∧ (v'.ownBlock = v.ownBlock ∨ ∃ k, v'.ownBlock = some k ∧ w.heap.size ≤ k)
set_option maxHeartbeats 4000000 in
set_option maxRecDepth 100000 in
theorem double_calls (w : World) (base p : Nat) (v : Value) (L : List Gr) (k : Nat) (x : Gr) (h : NetHas w base p v L) (hb : base ≤ w.heap.size) (hl : L.length ≤ 256) (hx : L[k]? = some x) (hbl : x.2.2.length ≤ 1000000) :
    Calls Try.prog 19 #[.pointer (some ⟨p, 0, none⟩), .int .i64 (k : Int)] w fun e w' => e = .returned (.bool true) ∧ Doubled w w' base p v L x := by
  have hk : k < L.length := (List.getElem?_eq_some_iff.1 hx).1
  have hrow := h.row
  rcases hrow.2 with ⟨_, h0⟩ | ⟨g, cap, cur, rfl, hbg, hg, hle, hm, hs, ht⟩
  · omega
  have hblk := h.blk
  obtain ⟨f0, f1⟩ := flat_at0 L k x hx
  have fl := flat_len L
  have c0 : cur[k * 2]? = some (.int .i64 x.1) := by
    rw [← ht, List.getElem?_take, if_pos (by omega)] at f0
    simpa using f0
  have c1 : cur[k * 2 + 1]? = some x.2.1 := by
    rw [← ht, List.getElem?_take, if_pos (by omega)] at f1
    simpa using f1
  have d0 := (blk_cell hg (k * 2)).trans c0
  have d1 := (blk_cell hg (k * 2 + 1)).trans c1
  have e0 := (blk_cell hblk 0).trans rfl
  have hel := h.els _ (List.mem_of_getElem? hx)
  obtain ⟨t, u, bs⟩ := x
  obtain ⟨Au, nu, cu, rfl⟩ : ∃ A n c, u = .slice A n c := by
    rcases hel.2 with ⟨e, _⟩ | ⟨g, cap, cur, e, _⟩
    · exact ⟨_, _, _, e⟩
    · exact ⟨_, _, _, e⟩
  have k0 : (k : Int) < (L.length : Int) := by omega
  have k1 : (0 : Int) ≤ (k : Int) := by omega
  have k2 : ((L.length : Int) ≤ (k : Int)) = False := eq_false (by omega)
  have k3 : ((k : Int) < 0) = False := eq_false (by omega)
  have X := Aside0.mk h
  have XB := Aside0.mk hblk
  have EL := Aside0.mk hel
  clear hrow h hblk hg hs ht f0 f1 hx hel
  go_enter Try.func19, Try.ntmps19
  go_wp2_with (first
    | ((with_reducible refine gate_callee (f := 15) rfl ?_); (try (refine gate_guard (by rfl) ?_; dsimp only)); refine goesL_ (some 11) rfl rfl Try.func15 (by kernel_rfl) rfl #[.pointer (some ⟨p, 0, none⟩)] rfl (by (try simp only [List.map_toArray, List.map_cons, List.map_nil]); first | done | rfl) ?_; (refine (len_calls w p L.length cap (some ⟨g, 0, none⟩) XB.out).mono ?_); rintro e w1 ⟨rfl, hw⟩; rw [hw]; clear hw w1; refine ⟨_, rfl, ?_⟩)
    | ((with_reducible refine gate_callee (f := 14) rfl ?_); refine goesL_ (some 26) rfl rfl Try.func14 (by kernel_rfl) rfl #[.pointer (some ⟨p, 0, none⟩), .int .i64 t, .slice Au nu cu] rfl (by (try simp only [List.map_toArray, List.map_cons, List.map_nil]); first | done | rfl) ?_; (refine (send_calls (w.alloc (.cells #[.int .i64 t, .slice Au nu cu] 61)) base p (.slice (some ⟨g, 0, none⟩) L.length cap) (.slice Au nu cu) L bs t (X.out.alloc _) (Nat.le_trans hb (by simp)) hl (RdB.of_has (pw_own_below EL.out (below_alloc (Below.refl _ _) _))) hbl).mono ?_); rintro e w2 ⟨rfl, v2, vc, h1, h2, h3, h4⟩; refine ⟨_, rfl, ?_⟩; have N2 := Aside0.mk h1; have K2 := Aside0.mk h3; have O2 := Aside0.mk h4; clear h1 h2 h3 h4))
  go_ret
  refine ⟨rfl, v2, vc, N2.out, ((KS.refl w _).alloc _).then_ K2.out (fun k h => .inl h), O2.out.imp id (fun ⟨k, h1, h2⟩ => ⟨k, h1, Nat.le_trans (by simp) h2⟩)⟩
end Go.Proofs.Ytlfckoeolcnniaa.Net
