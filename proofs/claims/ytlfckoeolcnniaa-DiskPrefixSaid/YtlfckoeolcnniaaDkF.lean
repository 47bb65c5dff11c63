/- Walks of disk: Sync, Cut. -/
import Derived.Test.YtlfckoeolcnniaaDkE
namespace Go.Proofs.Ytlfckoeolcnniaa.Net
open Go.RowKit Go.Proofs.YtlfckoeolcnniaaW.PrintWords Go.Proofs.YtlfckoeolcnniaaW.PrintLast Go.Proofs.YtlfckoeolcnniaaW.PrintMore
set_option linter.unusedVariables false
set_option linter.unusedSimpArgs false
attribute [local go_sem ↓] Go.wp_at_zero Go.wp_at_succ
theorem put3 {w : World} {p : Nat} {a b c d e : Value} (h : w.heap[p]? = some (.cells #[a, b, c, d, e] 84 (0, 0))) (s' : Nat) : Aside0 ((w.setCell ⟨p, 1, none⟩ (.map (some s'))).heap[p]? = some (.cells #[a, .map (some s'), c, d, e] 84 (0, 0))) := ⟨blk_put h 1 _ rfl⟩
theorem put4 {w : World} {p : Nat} {a b c d e : Value} (h : w.heap[p]? = some (.cells #[a, b, c, d, e] 84 (0, 0))) : Aside0 ((w.setCell ⟨p, 2, none⟩ d).heap[p]? = some (.cells #[a, b, d, d, e] 84 (0, 0))) := ⟨blk_put h 2 _ rfl⟩
theorem put5 {w : World} {p : Nat} {a b c d e : Value} (h : w.heap[p]? = some (.cells #[a, b, c, d, e] 84 (0, 0))) : Aside0 ((w.setCell ⟨p, 4, none⟩ (.slice none 0 0)).heap[p]? = some (.cells #[a, b, c, d, .slice none 0 0] 84 (0, 0))) := ⟨blk_put h 4 _ rfl⟩
set_option maxHeartbeats 8000000 in
set_option maxRecDepth 100000 in
theorem dsync_calls (w : World) (base p f s : Nat) (F S : Ents) (b u : Nat) (va : Value) (A : List Deed) (hD : Dk w base p f s F S b u va A) (hbase : base ≤ w.heap.size) :
    Calls Try.prog 28 #[.pointer (some ⟨p, 0, none⟩)] w fun e w' => e = .returned (.tuple #[]) ∧ ∃ s', Dk w' base p f s' F F u u (.slice none 0 0) [] ∧ KS w w' (fun k => k = p) := by
  have D := Aside0.mk hD
  have c0 : w.drew.cell? ⟨p, 0, none⟩ = some (.map (some f)) := (blk_cell (blk_drew hD.blk) 0).trans rfl
  have c3 : w.drew.cell? ⟨p, 3, none⟩ = some (.int .i64 (u : Nat)) := (blk_cell (blk_drew hD.blk) 3).trans rfl
  clear hD
  go_enter Try.func28, Try.ntmps28
  go_wp2
  go_region_held_law (fun w' => w'.cell? ⟨p, 0, none⟩ = some (.map (some f)) ∧ w'.cell? ⟨p, 3, none⟩ = some (.int .i64 (u : Nat))) (first | exact ⟨c0, c3⟩ | exact ⟨d0, d3⟩ | exact ⟨x0, x3⟩ | exact ⟨y0, y3⟩ | exact ⟨z0, z3⟩) ((refine goes_ Try.func46 (by kernel_rfl) rfl #[.map (some f)] (by rfl) rfl rfl (by (try simp only [List.map_toArray, List.map_cons, List.map_nil]); first | done | rfl) ?_; refine (mclone_calls w.drew f F D.out.mf).mono ?_; rintro e w2 ⟨s', rfl, hs, hM, hb⟩; refine ⟨_, rfl, ?_⟩; have M2 := Aside0.mk hM; have B2 := Aside0.mk hb; have P2 := Aside0.mk (blk_below (blk_drew D.out.blk) hb); have d0 := (blk_cell P2.out 0).trans rfl; have d3 := (blk_cell P2.out 3).trans rfl; have f1 := blk_frozen P2.out 1; have d1 := (blk_cell P2.out 1).trans rfl; clear hM hb; have P3 := put3 P2.out s'; have f2 := blk_frozen P3.out 2; have x0 := (blk_cell P3.out 0).trans rfl; have x3 := (blk_cell P3.out 3).trans rfl; have x2 := (blk_cell P3.out 2).trans rfl; have P4 := put4 P3.out; have f4 := blk_frozen P4.out 4; have y0 := (blk_cell P4.out 0).trans rfl; have y3 := (blk_cell P4.out 3).trans rfl; have y4 := (blk_cell P4.out 4).trans rfl; have P5 := put5 P4.out; have z0 := (blk_cell P5.out 0).trans rfl; have z3 := (blk_cell P5.out 3).trans rfl))
  all_goals go_end0
  all_goals
    have pf : p ≠ f := fun e => by subst e; exact D.out.mf.no_cells D.out.blk
    have hsz := blk_lt D.out.blk
    have KB : KS w w2 (fun k => k = p) := ((KS.refl w (fun k => k = p)).drew).then_ (KS.of_below B2.out (fun k => k = p)) (fun k h => .inl h)
    have KQ : KS w (((w2.setCell ⟨p, 1, none⟩ (.map (some s'))).setCell ⟨p, 2, none⟩ (.int .i64 (u : Nat))).setCell ⟨p, 4, none⟩ (.slice none 0 0)) (fun k => k = p) := ((KB.setCell (p := ⟨p, 1, none⟩) (.inl rfl) _).setCell (p := ⟨p, 2, none⟩) (.inl rfl) _).setCell (p := ⟨p, 4, none⟩) (.inl rfl) _
    have KP : KS w2 (((w2.setCell ⟨p, 1, none⟩ (.map (some s'))).setCell ⟨p, 2, none⟩ (.int .i64 (u : Nat))).setCell ⟨p, 4, none⟩ (.slice none 0 0)) (fun k => k = p) := (((KS.refl w2 (fun k => k = p)).setCell (p := ⟨p, 1, none⟩) (.inl rfl) _).setCell (p := ⟨p, 2, none⟩) (.inl rfl) _).setCell (p := ⟨p, 4, none⟩) (.inl rfl) _
    have hs' : w.heap.size ≤ s' := hs
    have hf := D.out.mf.lt
    exact ⟨rfl, s', ⟨P5.out, D.out.mf.ks KQ (fun e => pf e.symm), M2.out.ks KP (by omega), by omega, D.out.bp, D.out.bf, Nat.le_trans hbase hs', own_nil _ _ _ _⟩, KQ⟩
end Go.Proofs.Ytlfckoeolcnniaa.Net
