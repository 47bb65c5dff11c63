/- NetAll's argument: the row of operations, opened. -/
import Derived.Test.YtlfckoeolcnniaaNetL
import Derived.Deep.Strs
import Derived.ChangeArms
namespace Go.Proofs.Ytlfckoeolcnniaa.Net
open Go.RowKit Go.Proofs.YtlfckoeolcnniaaW.PrintWords Go.Proofs.YtlfckoeolcnniaaW.PrintLast Go.Proofs.YtlfckoeolcnniaaW.PrintMore
open Go.ChangeShapes Go.WideShapes Go.Deep
set_option linter.unusedVariables false
set_option linter.unusedSimpArgs false
section
variable {H : Type} {enc : TypeId × Value → H} {W : World} {base : Nat} {spare : Nat → Bool} {held : Bool}
theorem cells37 : Try.prog.cellsOf 37 = 3 := by kernel_rfl
theorem cells3 : Try.prog.cellsOf 3 = 1 := by kernel_rfl
theorem trod_op {fuel : Nat} {c0 c1 c2 : Value} {x : DataW H × List MemPlace} (h : DataW.trod enc Try.prog W base spare held fuel 37 [c0, c1, c2] = some x) :
    ∃ kd k, c0 = .int .i64 kd ∧ (Lit.int .i64 kd).wf = true ∧ c1 = .int .i64 k ∧ (Lit.int .i64 k).wf = true ∧ InB W c2 := by
  obtain ⟨y0, y1, y2, n, _, _, h0, h1, h2⟩ := trod_struct3 Try.underlying37 h
  simp only [cells3, cells27, List.drop_zero, List.drop_succ_cons, List.take_succ_cons, List.take_zero] at h0 h1 h2
  have h0' : DataW.trod enc Try.prog W base spare held n 3 [c0] = some y0 := h0
  have h1' : DataW.trod enc Try.prog W base spare held n 3 [c1] = some y1 := h1
  have h2' : DataW.trod enc Try.prog W base spare held n 27 [c2] = some y2 := h2
  obtain ⟨kd, e0, _, w0⟩ := DataW.trod_int Try.underlying3 h0'
  obtain ⟨k, e1, _, w1⟩ := DataW.trod_int Try.underlying3 h1'
  simp only [List.cons.injEq, and_true] at e0 e1
  exact ⟨kd, k, e0, w0, e1, w1, trod_bytes h2'⟩
theorem trod_ops {fuel : Nat} {v : Value} {x : DataW H × List MemPlace} (h : DataW.trod enc Try.prog W base spare held fuel 32 [v] = some x) : InO W v := by
  rcases DataW.trod_slice Try.underlying32 h with ⟨hcs, _⟩ | ⟨a, len, cap, elems, rest, n, _, hcs, _, _, hl, hm, hlen, hel, _, _⟩
  · simp at hcs
    subst hcs
    exact ⟨_, _, _, rfl, by omega, by omega⟩
  · simp at hcs
    subst hcs
    unfold maxLen at hm
    refine ⟨_, _, _, rfl, by omega, fun _ => ⟨a, rfl, fun i hi => ?_⟩⟩
    have h1 := hel i hi
    rw [List.getElem?_eq_getElem (by omega), cells37] at h1
    cases h2 : W.cells? base (a.add (i * 3)) 3 with
    | none => rw [h2] at h1; simp at h1
    | some cs =>
      rw [h2, Option.bind_some] at h1
      obtain ⟨_, hcl, hat⟩ := World.cells?_some h2
      match cs, hcl with
      | [c0, c1, c2], _ =>
        obtain ⟨kd, k, rfl, w0, rfl, w1, hb⟩ := trod_op h1
        have a0 := hat 0 (by omega)
        have a1 := hat 1 (by omega)
        have a2 := hat 2 (by omega)
        refine ⟨kd, k, c2, by simpa [Addr.add] using a0, w0, ?_, w1, ?_, hb⟩
        · have e : (a.add (i * 3)).add 1 = ⟨(a.add (i * 3)).block, (a.add (i * 3)).off + 1, none⟩ := rfl
          rw [← e]
          simpa using a1
        · have e : (a.add (i * 3)).add 2 = ⟨(a.add (i * 3)).block, (a.add (i * 3)).off + 2, none⟩ := rfl
          rw [← e]
          simpa using a2
end
end Go.Proofs.Ytlfckoeolcnniaa.Net
