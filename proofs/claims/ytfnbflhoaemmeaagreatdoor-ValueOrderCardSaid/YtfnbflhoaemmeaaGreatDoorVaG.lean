/- The order of texts: strings.Compare and Go's '<', '>' at strings tell the same; it goes through. -/
import Derived.Laws.Cover1
import Derived.Lib.Bytealg
namespace Go.Proofs.YtfnbflhoaemmeaaGreatDoor.EVal
open Go.Lib
set_option linter.unusedSimpArgs false
set_option linter.unusedVariables false
theorem tri : ∀ (x y : List UInt8), (compareBytes x y = -1 ∧ Op.bytesLess x y = true ∧ Op.bytesLess y x = false ∧ x ≠ y) ∨ (compareBytes x y = 0 ∧ Op.bytesLess x y = false ∧ Op.bytesLess y x = false ∧ x = y) ∨ (compareBytes x y = 1 ∧ Op.bytesLess x y = false ∧ Op.bytesLess y x = true ∧ x ≠ y)
  | [], [] => by simp [compareBytes, Op.bytesLess]
  | [], b :: y => by simp [compareBytes, Op.bytesLess]
  | a :: x, [] => by simp [compareBytes, Op.bytesLess]
  | a :: x, b :: y => by
    have ih := tri x y
    simp only [compareBytes, Op.bytesLess]
    by_cases h : a < b
    · have h2 : ¬ b < a := UInt8.lt_asymm h
      have h3 : a ≠ b := UInt8.ne_of_lt h
      simp [h, h2, h3, Ne.symm h3]
    · by_cases h2 : b < a
      · have h3 : b ≠ a := UInt8.ne_of_lt h2
        simp [h, h2, h3, Ne.symm h3]
      · have e : a = b := UInt8.le_antisymm (UInt8.not_lt.1 h2) (UInt8.not_lt.1 h)
        subst e
        simpa [h] using ih
theorem gtr_less (x y : List UInt8) : (!(Op.bytesLess x y || x == y)) = Op.bytesLess y x := by
  rcases tri x y with ⟨_, h1, h2, h3⟩ | ⟨_, h1, h2, h3⟩ | ⟨_, h1, h2, h3⟩
  · rw [h1, h2]; simp
  · subst h3; rw [h1]; simp
  · rw [h1, h2]; simp [h3]
theorem run_gtr_string (t : TypeId) (a b : ByteArray) : binOp .gtr t (.string a) (.string b) = pure (.bool (Op.bytesLess b.toList a.toList)) := by
  rw [binOp_string_gtr, gtr_less]
end Go.Proofs.YtfnbflhoaemmeaaGreatDoor.EVal
