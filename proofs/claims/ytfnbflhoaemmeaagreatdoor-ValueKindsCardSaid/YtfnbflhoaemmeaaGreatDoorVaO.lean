/- The order of values in plain words: three-way comparisons that are total orders, one behind the other. -/
import Derived.Laws.Cover1
import Derived.Lib.Bytealg
import Derived.Test.YtfnbflhoaemmeaaGreatDoorVaU
namespace Go.Proofs.YtfnbflhoaemmeaaGreatDoor.EVal
open Go.Lib
set_option linter.unusedSimpArgs false
set_option linter.unusedVariables false
theorem tri : ∀ (x y : List UInt8), (compareBytes x y = -1 ∧ Op.bytesLess x y = true ∧ Op.bytesLess y x = false ∧ x ≠ y) ∨ (compareBytes x y = 0 ∧ Op.bytesLess x y = false ∧ Op.bytesLess y x = false ∧ x = y) ∨ (compareBytes x y = 1 ∧ Op.bytesLess x y = false ∧ Op.bytesLess y x = true ∧ x ≠ y)
  | [], [] => by simp [compareBytes, Op.bytesLess]
  | [], b :: y => by simp [compareBytes, Op.bytesLess]
  | a :: x, [] => by simp [compareBytes, Op.bytesLess]
  | a :: x, b :: y => by
    have ih := tri x y
    simp only [compareBytes, Op.bytesLess]
    by_cases h : a < b
    · have h2 : ¬ b < a := UInt8.lt_asymm h
      have h3 : a ≠ b := UInt8.ne_of_lt h
      simp [h, h2, h3, Ne.symm h3]
    · by_cases h2 : b < a
      · have h3 : b ≠ a := UInt8.ne_of_lt h2
        simp [h, h2, h3, Ne.symm h3]
      · have e : a = b := UInt8.le_antisymm (UInt8.not_lt.1 h2) (UInt8.not_lt.1 h)
        subst e
        simpa [h] using ih
theorem gtr_less (x y : List UInt8) : (!(Op.bytesLess x y || x == y)) = Op.bytesLess y x := by
  rcases tri x y with ⟨_, h1, h2, h3⟩ | ⟨_, h1, h2, h3⟩ | ⟨_, h1, h2, h3⟩
  · rw [h1, h2]; simp
  · subst h3; rw [h1]; simp
  · rw [h1, h2]; simp [h3]
theorem run_gtr_string (t : TypeId) (a b : ByteArray) : binOp .gtr t (.string a) (.string b) = pure (.bool (Op.bytesLess b.toList a.toList)) := by
  rw [binOp_string_gtr, gtr_less]
end Go.Proofs.YtfnbflhoaemmeaaGreatDoor.EVal
namespace Go.Proofs.YtfnbflhoaemmeaaGreatDoor.EVal
open Go.RowKit Go.Lib Go.Proofs.YtfnbflhoaemmeaaGreatDoor.Ext Go.Proofs.YtfnbflhoaemmeaaGreatDoor.EFix
set_option linter.unusedVariables false
/-- a three-way comparison that is a total order -/
structure Ord3 {α : Type} (c : α → α → Int) : Prop where
  rng : ∀ a b, c a b = -1 ∨ c a b = 0 ∨ c a b = 1
  anti : ∀ a b, c b a = -c a b
  eq : ∀ a b, c a b = 0 ↔ a = b
  tr : ∀ a b d, c a b = -1 → c b d = -1 → c a d = -1
def lexC {α β : Type} (c : α → α → Int) (d : β → β → Int) (a b : α × β) : Int := if c a.1 b.1 = 0 then d a.2 b.2 else c a.1 b.1
theorem Ord3.lex {α β : Type} {c : α → α → Int} {d : β → β → Int} (hc : Ord3 c) (hd : Ord3 d) : Ord3 (lexC c d) where
  rng := by
    intro a b
    unfold lexC
    split
    · exact hd.rng _ _
    · exact hc.rng _ _
  anti := by
    intro a b
    unfold lexC
    rw [hc.anti a.1 b.1]
    by_cases h : c a.1 b.1 = 0
    · rw [if_pos (by omega), if_pos h]; exact hd.anti _ _
    · rw [if_neg (by omega), if_neg h]
  eq := by
    intro a b
    unfold lexC
    by_cases h : c a.1 b.1 = 0
    · rw [if_pos h, hd.eq]
      have := (hc.eq _ _).1 h
      constructor
      · intro h2; exact Prod.ext this h2
      · intro h2; rw [h2]
    · rw [if_neg h]
      constructor
      · intro h2; exact absurd h2 h
      · intro h2; rw [h2] at h ⊢; exact absurd ((hc.eq _ _).2 rfl) h
  tr := by
    intro a b e h1 h2
    unfold lexC at *
    by_cases p : c a.1 b.1 = 0
    · rw [if_pos p] at h1
      have q := (hc.eq _ _).1 p
      rw [q]
      by_cases r : c b.1 e.1 = 0
      · rw [if_pos r] at h2 ⊢; exact hd.tr _ _ _ h1 h2
      · rw [if_neg r] at h2 ⊢; exact h2
    · rw [if_neg p] at h1
      by_cases r : c b.1 e.1 = 0
      · have q := (hc.eq _ _).1 r
        rw [← q, if_neg p]; exact h1
      · rw [if_neg r] at h2
        have := hc.tr _ _ _ h1 h2
        rw [if_neg (by omega)]; exact this
theorem Ord3.le_tr {α : Type} {c : α → α → Int} (h : Ord3 c) {a b d : α} (h1 : c a b ≤ 0) (h2 : c b d ≤ 0) : c a d ≤ 0 := by
  rcases h.rng a b with p | p | p
  · rcases h.rng b d with q | q | q
    · have := h.tr _ _ _ p q; omega
    · rw [← (h.eq _ _).1 q]; omega
    · omega
  · rw [(h.eq _ _).1 p]; exact h2
  · omega
def cmpI (a b : Int) : Int := if a < b then -1 else if b < a then 1 else 0
theorem cmpI_ord : Ord3 cmpI where
  rng := by intro a b; unfold cmpI; split <;> (try split) <;> simp
  anti := by intro a b; unfold cmpI; split <;> split <;> (try split) <;> omega
  eq := by intro a b; unfold cmpI; split <;> (try split) <;> omega
  tr := by
    intro a b d
    unfold cmpI
    intro h1 h2
    have p : a < b := by revert h1; split; intro; assumption; split <;> intro h <;> omega
    have q : b < d := by revert h2; split; intro; assumption; split <;> intro h <;> omega
    rw [if_pos (by omega)]
theorem less_tr : ∀ (x y z : List UInt8), compareBytes x y = -1 → compareBytes y z = -1 → compareBytes x z = -1
  | [], [], _, h, _ => by simp [compareBytes] at h
  | [], b :: y, [], _, h => by simp [compareBytes] at h
  | [], b :: y, d :: z, _, _ => by simp [compareBytes]
  | a :: x, [], _, h, _ => by simp [compareBytes] at h
  | a :: x, b :: y, [], _, h => by simp [compareBytes] at h
  | a :: x, b :: y, d :: z, h1, h2 => by
    simp only [compareBytes] at h1 h2 ⊢
    have ih := less_tr x y z
    by_cases p : a < b
    · by_cases q : b < d
      · rw [if_pos (UInt8.lt_trans p q)]
      · rw [if_neg q] at h2
        by_cases r : d < b
        · rw [if_pos r] at h2; omega
        · have e : b = d := UInt8.le_antisymm (UInt8.not_lt.1 r) (UInt8.not_lt.1 q)
          subst e; rw [if_pos p]
    · rw [if_neg p] at h1
      by_cases r : b < a
      · rw [if_pos r] at h1; omega
      · have e : a = b := UInt8.le_antisymm (UInt8.not_lt.1 r) (UInt8.not_lt.1 p)
        subst e
        rw [if_neg p] at h1
        by_cases q : a < d
        · rw [if_pos q]
        · rw [if_neg q] at h2 ⊢
          by_cases r2 : d < a
          · rw [if_pos r2] at h2; omega
          · rw [if_neg r2] at h2 ⊢; exact ih h1 h2
theorem cmpB_ord : Ord3 (fun x y : ByteArray => compareBytes (by_ x) (by_ y)) where
  rng := by intro a b; rcases tri (by_ a) (by_ b) with h | h | h <;> simp [h.1]
  anti := by
    intro a b
    rcases tri (by_ a) (by_ b) with h | h | h <;> rcases tri (by_ b) (by_ a) with g | g | g <;> simp_all
  eq := by
    intro a b
    rcases tri (by_ a) (by_ b) with h | h | h
    · simp only [h.1]; exact ⟨fun e => by omega, fun e => absurd (congrArg by_ e) h.2.2.2⟩
    · simp only [h.1]; exact ⟨fun _ => by_inj h.2.2.2, fun _ => trivial⟩
    · simp only [h.1]; exact ⟨fun e => by omega, fun e => absurd (congrArg by_ e) h.2.2.2⟩
  tr := fun a b d => less_tr _ _ _
def tbI (b : Bool) : Int := if b = true then 1 else 0
theorem cmpT_ord : Ord3 (fun x y : Bool => tbI x - tbI y) where
  rng := by decide
  anti := by decide
  eq := by decide
  tr := by decide
/-- a value -/
abbrev V5 := Int × Int × ByteArray × Bool × Int
def mayS (v : V5) : Bool :=
  (decide (v.1 = 1) || decide (v.2.1 = 0)) && (decide (v.1 = 2) || decide (by_ v.2.2.1 = [])) && (decide (v.1 = 3) || !v.2.2.2.1) && (decide (v.1 = 4) || decide (v.2.2.2.2 = 0)) &&
  (decide (v.1 = 0 ∨ v.1 = 1 ∨ v.1 = 3) || (decide (v.1 = 2) && (decide (v.2.2.1.size ≤ 200) && validD (by_ v.2.2.1))) || (decide (v.1 = 4) && decide (1 ≤ v.2.2.2.2 ∧ v.2.2.2.2 ≤ 7)))
def rankS (v : V5) : Int := if mayS v = true then v.1 else 5
def keyS (v : V5) : Int × Int × ByteArray × Bool × Int := if mayS v = true then v else (5, 0, ByteArray.empty, false, 0)
def cmpV : V5 → V5 → Int := lexC cmpI (lexC cmpI (lexC (fun x y : ByteArray => compareBytes (by_ x) (by_ y)) (lexC (fun x y : Bool => tbI x - tbI y) cmpI)))
theorem cmpV_ord : Ord3 cmpV := cmpI_ord.lex (cmpI_ord.lex (cmpB_ord.lex (cmpT_ord.lex cmpI_ord)))
def cmpS (a b : V5) : Int := cmpV (keyS a) (keyS b)
theorem cmpS_rng (a b : V5) : cmpS a b = -1 ∨ cmpS a b = 0 ∨ cmpS a b = 1 := cmpV_ord.rng _ _
theorem cmpS_anti (a b : V5) : cmpS b a = -cmpS a b := cmpV_ord.anti _ _
theorem cmpS_refl (a : V5) : cmpS a a = 0 := (cmpV_ord.eq _ _).2 rfl
theorem cmpS_tr {a b d : V5} (h1 : cmpS a b ≤ 0) (h2 : cmpS b d ≤ 0) : cmpS a d ≤ 0 := cmpV_ord.le_tr h1 h2
theorem rank_key (v : V5) : (keyS v).1 = rankS v := by
  unfold keyS rankS
  split <;> rfl
end Go.Proofs.YtfnbflhoaemmeaaGreatDoor.EVal
