/- Walks of disk: Clone, New, do. -/
import Derived.Test.YtlfckoeolcnniaaDkB
import Derived.WalkSpells
import Derived.Laws.Externs
import Derived.Carry
namespace Go.Proofs.Ytlfckoeolcnniaa.Net
open Go.RowKit Go.Proofs.YtlfckoeolcnniaaW.PrintWords Go.Proofs.YtlfckoeolcnniaaW.PrintLast Go.Proofs.YtlfckoeolcnniaaW.PrintMore
set_option linter.unusedVariables false
set_option linter.unusedSimpArgs false
attribute [local go_sem ↓] Go.wp_at_zero Go.wp_at_succ
theorem run_typeAssert80 (w : World) (v : Value) : (Instr.typeAssert (.iface 80 v) 20 80 false).run Try.prog w = .ok v w := by
  simp [Instr.typeAssert, run_underlying Try.underlying80]
theorem run_mclone {w : World} {r : Nat} {es : Array MapEntry} {clock : Nat} (hb : w.heap[r]? = some (.map es clock)) :
    (Extern.MapsClone.clone #[.iface 80 (.map (some r))]).run Try.prog w = .ok (.iface 80 (.map (some w.heap.size))) (w.alloc (.map es clock)) := by
  have e : Extern.MapsClone.clone #[.iface 80 (.map (some r))] = (getObj r >>= fun o => match o with
    | .map es clock => newObj (.map es clock) >>= fun r' => pure (.iface 80 (.map (some r')))
    | _ => stuck "maps.clone: a map expected") := rfl
  rw [e]
  simp [MapKept.run_getObj_map hb]
set_option maxHeartbeats 8000000 in
set_option maxRecDepth 100000 in
theorem mclone_calls (w : World) (m : Nat) (L : Ents) (hm : MapS w m L) : Calls Try.prog 46 #[.map (some m)] w fun e w' => ∃ m', e = .returned (.map (some m')) ∧ w.heap.size ≤ m' ∧ MapS w' m' L ∧ Below w.heap.size w w' := by
  obtain ⟨es, clock, hb, hL⟩ := hm
  have HL := Aside0.mk hL
  have hq := fun w => run_eql_map_nil (P := Try.prog) w 80 _ _ (some m) Try.underlying80
  clear hL
  go_enter Try.func46, Try.ntmps46
  go_wp2
  rw [run_callFunc_extern Try.func51 (by kernel_rfl) (by kernel_rfl) (by kernel_rfl) (e := Extern.MapsClone.clone) (by kernel_rfl), run_mclone hb]
  simp only [Result.andThen]
  rw [Oper.upon_value]
  go_wp2
  rw [run_typeAssert80]
  simp only [Result.andThen]
  rw [Oper.upon_value]
  go_wp2
  go_ret
  exact ⟨_, rfl, Nat.le_refl _, ⟨es, clock, blk_new w _, HL.out⟩, below_alloc (Below.refl _ _) _⟩
set_option maxHeartbeats 8000000 in
set_option maxRecDepth 100000 in
theorem dnew_calls (w : World) : Calls Try.prog 33 #[] w fun e w' => ∃ p f s, e = .returned (.pointer (some ⟨p, 0, none⟩)) ∧ w.heap.size ≤ p ∧ w.heap.size ≤ f ∧ w.heap.size ≤ s ∧ f ≠ s ∧ w'.heap[p]? = some (.cells #[.map (some f), .map (some s), .int .i64 0, .int .i64 0, .slice none 0 0] 84 (0, 0)) ∧ MapS w' f [] ∧ MapS w' s [] ∧ Below w.heap.size w w' := by
  have hmm := @run_makeMap Try.prog
  have m1 := MapS.new w
  have m2 := MapS.new (w.alloc (.map #[] 0))
  have M1 := Aside0.mk (m1.alloc (.map #[] 0))
  have M2 := Aside0.mk m2
  clear m1 m2
  go_enter Try.func33, Try.ntmps33
  go_wp2
  go_ret
  refine ⟨w.heap.size + 1 + 1, w.heap.size, w.heap.size + 1, rfl, by omega, Nat.le_refl _, by omega, by omega, ?_, M1.out.alloc _, ?_, below_alloc (below_alloc (below_alloc (Below.refl _ _) _) _) _⟩
  · have := blk_new ((w.alloc (.map #[] 0)).alloc (.map #[] 0)) (.cells #[.map (some w.heap.size), .map (some (w.heap.size + 1)), .int .i64 0, .int .i64 0, .slice none 0 0] 84)
    rw [show ((w.alloc (.map #[] 0)).alloc (.map #[] 0)).heap.size = w.heap.size + 1 + 1 by simp] at this
    exact this
  · have := M2.out.alloc (.cells #[.map (some w.heap.size), .map (some (w.heap.size + 1)), .int .i64 0, .int .i64 0, .slice none 0 0] 84)
    rw [show (w.alloc (.map #[] 0)).heap.size = w.heap.size + 1 by simp] at this
    exact this
end Go.Proofs.Ytlfckoeolcnniaa.Net
