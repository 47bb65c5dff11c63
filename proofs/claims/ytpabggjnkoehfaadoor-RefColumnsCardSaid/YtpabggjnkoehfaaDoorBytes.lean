/- Words for a row of bytes made of a text ([]byte(s)), written, and read back (string(b)). No condition. -/
import Derived.Test.YtpabggjnkoehfaaDoorProg
import Derived.Test.YtpabggjnkoehfaaDoorWMore
import Derived.Test.YtpabggjnkoehfaaDoorWGuard
import Derived.Lib.ConvBytes
import Derived.Laws.IdiomStrings
namespace Go.Proofs.YtpabggjnkoehfaaDoor.Ext
open Go.RowKit Go.Proofs.YtpabggjnkoehfaaDoorW.PrintWords
/-- the block g holds the bytes l (and maybe more) -/
structure BRow (w : World) (g : Nat) (l : List UInt8) : Prop where
  h : ∃ cs N, w.heap[g]? = some (.cells cs 5 (N, N + 1)) ∧ l.length ≤ N ∧ ∀ j, j < l.length → cs[j]? = some (.int .u8 ((l.getD j 0).toNat : Int))
theorem BRow.cell {w : World} {g : Nat} {l : List UInt8} (h : BRow w g l) (j : Nat) (hj : j < l.length) : w.cell? ⟨g, j, none⟩ = some (.int .u8 ((l.getD j 0).toNat : Int)) := by
  obtain ⟨cs, N, h1, _, h3⟩ := h.h
  exact (cell_of_row w g j cs 5 _ h1).trans (h3 j hj)
theorem BRow.frozen {w : World} {g : Nat} {l : List UInt8} (h : BRow w g l) (j : Nat) (hj : j < l.length) : w.frozen? ⟨g, j, none⟩ = false := by
  obtain ⟨cs, N, h1, h2, h3⟩ := h.h
  simp [World.frozen?, h1]
  omega
theorem BRow.put {w : World} {g : Nat} {l : List UInt8} (h : BRow w g l) (i : Nat) (b : UInt8) : BRow (w.setCell ⟨g, i, none⟩ (.int .u8 (b.toNat : Int))) g (l.set i b) := by
  obtain ⟨cs, N, h1, h2, h3⟩ := h.h
  refine ⟨cs.setIfInBounds i (.int .u8 (b.toNat : Int)), N, by simp [World.setCell, Array.getElem?_modify, h1], by simpa using h2, fun j hj => ?_⟩
  have hj' : j < l.length := by simpa using hj
  rw [Array.getElem?_setIfInBounds]
  by_cases e : i = j
  · subst e
    have hc : i < cs.size := (Array.getElem?_eq_some_iff.1 (h3 i hj')).1
    rw [if_pos rfl, if_pos hc]
    simp [List.getD, hj']
  · rw [if_neg e, h3 j hj']
    simp [List.getD, e]
theorem BRow.below {w w' : World} {g : Nat} {l : List UInt8} (h : BRow w g l) (hb : Below w.heap.size w w') : BRow w' g l := by
  obtain ⟨cs, N, h1, h2, h3⟩ := h.h
  exact ⟨cs, N, (hb.block g (Array.getElem?_eq_some_iff.1 h1).1).trans h1, h2, h3⟩
theorem BRow.drewN {w : World} {g : Nat} {l : List UInt8} (h : BRow w g l) (n : Nat) : BRow (w.drewN n) g l := ⟨h.h⟩
theorem BRow.alloc {w : World} {g : Nat} {l : List UInt8} (h : BRow w g l) (o : Obj) : BRow (w.alloc o) g l := h.below (Below.alloc (Below.refl _ w) (Nat.le_refl _) o)
theorem BRow.new (w : World) (s : ByteArray) : BRow (Lib.bytesWorld w 5 s) w.heap.size s.data.toList := by
  refine ⟨Lib.bytesCells w 5 s, _, Lib.bytesWorld_at_new w 5 s, ?_, fun j hj => ?_⟩
  · simp [Lib.bytesCells]
  · have hj' : j < s.size := by simpa using hj
    have := Lib.bytesWorld_cell w 5 s j hj'
    rw [cell_of_row _ _ j _ 5 _ (Lib.bytesWorld_at_new w 5 s)] at this
    exact this
theorem bytesWorld_below (w : World) (s : ByteArray) : Below w.heap.size w (Lib.bytesWorld w 5 s) :=
  ⟨rfl, rfl, rfl, by rw [Lib.bytesWorld_size]; omega, fun k hk => Lib.bytesWorld_at_old w 5 s k hk⟩
section
variable {ops : Array Oper} {rest : List Oper} {o : Oper} {a : Act} {Q : Exit → Act → World → Prop} {W : World}
/-- []byte(s): a new block -/
theorem conv_event (hgd : o.guard = none) {x : Operand} (ho : o.op = .convert 9 37 x) (s : ByteArray) (hx : a.eval x = .string s)
    (h : ∀ g cap w1, W.heap.size ≤ g → BRow w1 g s.data.toList → Below W.heap.size W w1 → wpList Tryd.prog ops Q rest (a.put o.dst (.slice (some ⟨g, 0, none⟩) s.size cap)) w1) : wpList Tryd.prog ops Q (o :: rest) a W := by
  refine Kd.event_run hgd ?_ (h W.heap.size (grownCap W s.size 0 5) (Lib.bytesWorld W 5 s) (Nat.le_refl _) (BRow.new W s) (bytesWorld_below W s))
  unfold execOp
  simp only [ho, hx, Sem.run_bind, Sem.run_pure, Result.andThen_ok, Lib.run_convert_string_bytes (P := Tryd.prog) W 9 37 5 s Tryd.underlying9 Tryd.underlying37 Tryd.underlying5]
/-- string(b) -/
theorem back_event (hgd : o.guard = none) {x : Operand} (ho : o.op = .convert 37 9 x) (g cap n : Nat) (l : List UInt8) (hx : a.eval x = .slice (some ⟨g, 0, none⟩) n cap) (hn : n = l.length) (hr : BRow W g l)
    (h : wpList Tryd.prog ops Q rest (a.put o.dst (.string ⟨l.toArray⟩)) W) : wpList Tryd.prog ops Q (o :: rest) a W := by
  subst hn
  refine Kd.event_run hgd ?_ h
  unfold execOp
  have hc := run_convert_bytes_back (P := Tryd.prog) W 37 9 5 ⟨g, 0, none⟩ cap l Tryd.underlying37 Tryd.underlying5 Tryd.underlying9 (fun j hj => by
    have := hr.cell j hj
    have e : (⟨g, 0, none⟩ : Addr).add j = ⟨g, j, none⟩ := by rw [add_plain]; try rw [Nat.zero_add]
    rw [e, this]
    simp [List.getD, hj])
  simp only [ho, hx, Sem.run_bind, Sem.run_pure, Result.andThen_ok, hc]
end
end Go.Proofs.YtpabggjnkoehfaaDoor.Ext
