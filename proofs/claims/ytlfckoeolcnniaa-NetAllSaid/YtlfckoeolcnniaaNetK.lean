/- The law's own list of datagrams: NetAll. -/
import Derived.Test.YtlfckoeolcnniaaNetJ
import Derived.Test.YtlfckoeolcnniaaWMore
import Derived.Test.YtlfckoeolcnniaaWApart
import Derived.Test.YtlfckoeolcnniaaWKept
import Derived.Test.YtlfckoeolcnniaaWQPut
namespace Go.Proofs.Ytlfckoeolcnniaa.Net
open Go.RowKit Go.Proofs.YtlfckoeolcnniaaW.PrintWords Go.Proofs.YtlfckoeolcnniaaW.PrintLast Go.Proofs.YtlfckoeolcnniaaW.PrintMore
set_option linter.unusedVariables false
set_option linter.unusedSimpArgs false
def cellsG (x : Gr) : List Value := [.int .i64 x.1, x.2.1]
structure LHas (w : World) (base : Nat) (v : Value) (L : List Gr) : Prop where
  row : (Kd.raw 2).Q 35 w base (fun k => base ≤ k) v (L.map cellsG)
  els : ∀ x ∈ L, HasB w base x.2.1 x.2.2
theorem LHas.nil (w : World) (base : Nat) : LHas w base (.slice none 0 0) [] := ⟨Kd.Q_nil _ _ _ _ _, fun x hx => by cases hx⟩
theorem LHas.typed {w : World} {base : Nat} {v : Value} {L : List Gr} (h : LHas w base v L) : ∀ k, v.ownBlock = some k → base ≤ k ∧ ∃ cells, w.heap[k]? = some (.cells cells 35 (0, 0)) := fun k hk => ⟨Kd.Q_base h.row k hk, Kd.Q_typed h.row k hk⟩
theorem LHas.far {w w' : World} {base : Nat} {v : Value} {L : List Gr} (h : LHas w base v L) {S : Nat → Prop} (hk : KS w w' S) (hS : ∀ k, S k → ∃ cs t, w.heap[k]? = some (.cells cs t (0, 0)) ∧ t ≠ 5 ∧ t ≠ 35) : LHas w' base v L := by
  refine ⟨?_, fun x hx => hasB_far (h.els x hx) hk (fun k hk => by obtain ⟨cs, t, h1, h2, _⟩ := hS k hk; exact ⟨cs, t, h1, h2⟩)⟩
  have ht := Kd.Q_tight rfl h.row
  refine Kd.Q_mono (Kd.Q_kept ht hk.k (fun k hk hs => ?_)) (fun k hk => Kd.Q_base h.row k hk.symm)
  obtain ⟨cs, h1⟩ := Kd.Q_typed h.row k hk.symm
  obtain ⟨cs', t, h2, _, h3⟩ := hS k hs
  exact blk_ne h1 h2 (fun e => h3 e.symm) rfl
theorem LHas.below {w w' : World} {base : Nat} {v : Value} {L : List Gr} (h : LHas w base v L) (hb : Below w.heap.size w w') : LHas w' base v L := h.far (KS.of_below hb (fun _ => False)) (fun k h => h.elim)
theorem LHas.drop1 {w : World} {base : Nat} {A : Option Addr} {n c : Nat} {L : List Gr} (h : LHas w base (.slice A n c) L) (hp : 1 ≤ L.length) : LHas w base (.slice (if c = 1 then A else A.map (·.add 2)) (n - 1) (c - 1)) (L.drop 1) := by
  refine ⟨?_, fun x hx => h.els x (List.mem_of_mem_drop hx)⟩
  have := Kd.Q_drop (k := 1) h.row (by simpa using hp)
  rw [List.map_drop]
  exact this
theorem info35 : (Try.prog.info? 35).map (fun i => (i.zero, i.size, i.bytes)) = some (some (.agg #[.int .i64 0, .slice none 0 0]), 2, 32) := by kernel_rfl
theorem LHas.append {w0 w : World} {base : Nat} {v vb : Value} {L : List Gr} {bs : List Int} (h : LHas w base v L) (d : Int) (hb : HasB w base vb bs) (h1 : vb.oneCell' = true) (HB : Below base w0 w) (hbase : base ≤ w.heap.size) (hl : L.length ≤ 1000) (ty : TypeId) :
    ∃ v1 w1, (Builtin.append_ #[33, 33] ty #[v, .slice (some ⟨w.heap.size, 0, none⟩) 1 1]).run Try.prog (w.alloc (.cells #[.int .i64 d, vb] 35)) = .ok v1 w1 ∧ LHas w1 base v1 (L ++ [(d, vb, bs)]) ∧ Below base w0 w1 ∧ w.grownBy w1 v.ownBlock := by
  obtain ⟨v1, w1, hr, h2, h3, h4, h5⟩ := Kd.Q_run (P := Try.prog) (Kd.raw 2) base 33 ty 35 _ 32 Try.underlying33 info35 rfl (by decide) (by decide) v (L.map cellsG) [.int .i64 d, vb] [.int .i64 d, vb] (fun k => base ≤ k) (fun _ => False) ⟨rfl, rfl, by intro u hu; simp at hu; rcases hu with rfl | rfl; rfl; exact h1⟩ (fun k hk => hk.elim) (fun k hk => Nat.le_trans hbase hk) h.row HB hbase (by rw [List.length_map]; omega)
  refine ⟨v1, w1, hr, ⟨by rw [List.map_append]; exact h2, fun x hx => ?_⟩, h3, h4⟩
  have key : ∀ {u : Value} {cs : List Int}, HasB w base u cs → HasB w1 base u cs := fun {u cs} hu => by
    rcases hu.2 with ⟨e, h0⟩ | ⟨g, cap, cur, e, hg, hh, r⟩
    · exact ⟨hu.1, .inl ⟨e, h0⟩⟩
    · refine ⟨hu.1, .inr ⟨g, cap, cur, e, hg, ?_, r⟩⟩
      exact blk_grown hh h4 (fun e' => by obtain ⟨cells, hc⟩ := Kd.Q_typed h.row g e'.symm; exact blk_ne hh hc (by decide) rfl)
  rcases List.mem_append.1 hx with hx | hx
  · exact key (h.els x hx)
  · obtain rfl := List.mem_singleton.1 hx
    exact key hb
theorem LHas.at_ {w : World} {base : Nat} {v : Value} {L : List Gr} (h : LHas w base v L) {i : Nat} {x : Gr} (hx : L[i]? = some x) :
    ∃ g o cap, v = .slice (some ⟨g, o, none⟩) L.length cap ∧ w.cell? ⟨g, o + i * 2, none⟩ = some (.int .i64 x.1) ∧ w.cell? ⟨g, o + i * 2 + 1, none⟩ = some x.2.1 := by
  have hi := (List.getElem?_eq_some_iff.1 hx).1
  obtain ⟨g, o, cap, e, _⟩ := Kd.Q_form h.row (by rw [List.length_map]; omega)
  rw [List.length_map] at e
  subst e
  obtain ⟨c, _, hM, hc, _⟩ := Kd.Q_elem h.row [] (i : Int) (by omega) (by omega)
  have e0 : (L.map cellsG).getD (i : Int).toNat [] = cellsG x := by
    rw [Int.toNat_natCast, List.getD_eq_getElem?_getD, List.getElem?_map, hx]
    rfl
  have hc' : c = cellsG x := by rw [← e0]; exact hM.1
  subst hc'
  exact ⟨g, o, cap, rfl, hc 0 _ rfl, hc 1 _ rfl⟩
end Go.Proofs.Ytlfckoeolcnniaa.Net
