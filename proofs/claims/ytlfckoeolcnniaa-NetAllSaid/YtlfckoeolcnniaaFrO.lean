/- Arguments that are rows of bytes, opened. -/
import Derived.Test.YtlfckoeolcnniaaFrH
import Derived.Deep.Slices
import Derived.ChangeSame
namespace Go.Proofs.Ytlfckoeolcnniaa.Net
open Go.RowKit Go.Proofs.YtlfckoeolcnniaaW.PrintWords Go.Proofs.YtlfckoeolcnniaaW.PrintLast Go.Proofs.YtlfckoeolcnniaaW.PrintMore
open Go.ChangeShapes Go.WideShapes Go.Deep
set_option linter.unusedVariables false
set_option linter.unusedSimpArgs false
/-- bytes that came in -/
def InB (W : World) (v : Value) : Prop := ∃ bs, RdB W v bs ∧ bytes bs ∧ CapOk v ∧ bs.length ≤ 9223372036854775807
/-- rows of them -/
def InR (W : World) (v : Value) : Prop := ∃ A n c, v = .slice A n c ∧ n ≤ 9223372036854775807 ∧ (0 < n → ∃ a, A = some a ∧ ∀ i, i < n → ∃ u, W.cell? (a.add i) = some u ∧ InB W u)
section
variable {H : Type} {enc : TypeId × Value → H} {W : World} {base : Nat} {spare : Nat → Bool} {held : Bool}
theorem cells5 : Try.prog.cellsOf 5 = 1 := by kernel_rfl
theorem cells27 : Try.prog.cellsOf 27 = 1 := by kernel_rfl
theorem trod_bytes {fuel : Nat} {v : Value} {x : DataW H × List MemPlace} (h : DataW.trod enc Try.prog W base spare held fuel 27 [v] = some x) : InB W v := by
  rcases open_ints Try.underlying27 Try.underlying5 cells5 h with ⟨hcs, _⟩ | ⟨a, len, cap, zs, hcs, _, hl, hm, hz, _, hc, hw⟩
  · simp at hcs
    subst hcs
    exact ⟨[], RdB.none0 W none, by intro x hx; simp at hx, ⟨_, _, _, rfl, Nat.le_refl _⟩, by simp⟩
  · simp at hcs
    subst hcs
    have hle : len ≤ zs.length := by rw [hz]; split <;> omega
    unfold maxLen at hm
    have hlt : (zs.take len).length = len := by rw [List.length_take]; omega
    refine ⟨zs.take len, ⟨some a, cap, by rw [hlt], (fun h => nomatch h), fun a' ha j u hu => ?_⟩, fun x hx => ?_, ⟨_, _, _, rfl, hl⟩, by rw [hlt]; omega⟩
    · injection ha with ha
      subst ha
      have hj : j < len := by
        have := (List.getElem?_eq_some_iff.1 hu).1
        rw [List.length_map, hlt] at this
        exact this
      rw [hc j (by omega), ← hu, List.getElem?_map, List.getElem?_take, if_pos hj, List.getD_eq_getElem?_getD, List.getElem?_eq_getElem (by omega)]
      rfl
    · have := hw x (List.mem_of_mem_take hx)
      simp [Lit.wf, IntKind.min, IntKind.max, IntKind.bits, IntKind.signed] at this
      omega
theorem trod_rows {fuel : Nat} {v : Value} {x : DataW H × List MemPlace} (h : DataW.trod enc Try.prog W base spare held fuel 42 [v] = some x) : InR W v := by
  rcases DataW.trod_slice Try.underlying42 h with ⟨hcs, _⟩ | ⟨a, len, cap, elems, rest, n, _, hcs, _, _, hl, hm, hlen, hel, _, _⟩
  · simp at hcs
    subst hcs
    exact ⟨_, _, _, rfl, by omega, by omega⟩
  · simp at hcs
    subst hcs
    unfold maxLen at hm
    refine ⟨_, _, _, rfl, by omega, fun _ => ⟨a, rfl, fun i hi => ?_⟩⟩
    have h1 := hel i hi
    rw [List.getElem?_eq_getElem (by omega), cells27, Nat.mul_one] at h1
    cases h2 : W.cells? base (a.add i) 1 with
    | none => rw [h2] at h1; simp at h1
    | some cs =>
      rw [h2, Option.bind_some] at h1
      obtain ⟨_, hcl, hat⟩ := World.cells?_some h2
      match cs, hcl with
      | [u], _ =>
        refine ⟨u, ?_, trod_bytes h1⟩
        have := hat 0 (by omega)
        simpa [Addr.add] using this
end
end Go.Proofs.Ytlfckoeolcnniaa.Net
