/- Maps of texts, told whole: lookup, update, delete, clone. -/
import Derived.Test.YtlfckoeolcnniaaFrO
import Derived.Maps.Keyed
namespace Go.Proofs.Ytlfckoeolcnniaa.Net
open Go.RowKit Go.Proofs.YtlfckoeolcnniaaW.PrintWords Go.Proofs.YtlfckoeolcnniaaW.PrintLast Go.Proofs.YtlfckoeolcnniaaW.PrintMore
set_option linter.unusedVariables false
set_option linter.unusedSimpArgs false
/-- what a map holds, in the order in which it came -/
abbrev Ents := List (ByteArray × Value)
def MapS (w : World) (m : Nat) (L : Ents) : Prop := ∃ es clock, w.heap[m]? = some (.map es clock) ∧ es.toList.map (fun e => (e.key, e.val)) = L.map (fun p => (Value.string p.1, p.2))
/-- where a key stands, and what stands there -/
def fnd (k : ByteArray) : Ents → Nat → Option (Nat × Value)
  | [], _ => none
  | p :: r, i => if k == p.1 then some (i, p.2) else fnd k r (i + 1)
def lkp (k : ByteArray) (L : Ents) : Option Value := (fnd k L 0).map (·.2)
def upd (k : ByteArray) (v : Value) (L : Ents) : Ents := match fnd k L 0 with
  | some (j, _) => L.set j (k, v)
  | none => L ++ [(k, v)]
def del (k : ByteArray) (L : Ents) : Ents := match fnd k L 0 with
  | some (j, _) => L.eraseIdx j
  | none => L
theorem findNow_fnd (k : ByteArray) : ∀ (es : List MapEntry) (L : Ents) (i : Nat), es.map (fun e => (e.key, e.val)) = L.map (fun p => (Value.string p.1, p.2)) → Instr.findNow .string (.string k) es i = some (fnd k L i)
  | [], [], i, _ => rfl
  | [], p :: r, i, h => by simp at h
  | e :: es, [], i, h => by simp at h
  | e :: es, p :: r, i, h => by
    simp only [List.map_cons, List.cons.injEq, Prod.mk.injEq] at h
    obtain ⟨⟨h1, h2⟩, h3⟩ := h
    rw [Instr.findNow, h1]
    simp only [Instr.sameNow, fnd]
    by_cases hk : k == p.1
    · simp [hk, h2]
    · simp only [Bool.not_eq_true] at hk
      simp only [hk]
      exact findNow_fnd k es r (i + 1) h3
theorem fnd_at (k : ByteArray) : ∀ (L : Ents) (i j : Nat) (v : Value), fnd k L i = some (j, v) → i ≤ j ∧ j - i < L.length ∧ L[j - i]? = some (k, v)
  | [], i, j, v, h => by simp [fnd] at h
  | p :: r, i, j, v, h => by
    rw [fnd] at h
    split at h
    · rename_i hk
      injection h with h
      injection h with h1 h2
      subst h1; subst h2
      have : k = p.1 := (MapKept.bytes_beq _ _).1 hk
      simp [this]
    · obtain ⟨h1, h2, h3⟩ := fnd_at k r (i + 1) j v h
      refine ⟨by omega, by simp only [List.length_cons]; omega, ?_⟩
      rw [show j - i = (j - (i + 1)) + 1 by omega, List.getElem?_cons_succ]
      exact h3
theorem eraseIdx_mapped {α β : Type} (f : α → β) (l : List α) (j : Nat) : (l.eraseIdx j).map f = (l.map f).eraseIdx j := by
  rw [List.eraseIdx_eq_take_drop_succ, List.eraseIdx_eq_take_drop_succ, List.map_append, List.map_take, List.map_drop]
section
variable {w : World} {m : Nat} {L : Ents}
theorem MapS.len {es : Array MapEntry} (h : es.toList.map (fun e => (e.key, e.val)) = L.map (fun p => (Value.string p.1, p.2))) : es.size = L.length := by
  have := congrArg List.length h
  simpa using this
theorem run_lookupS (t e k : TypeId) (ht : Try.prog.underlying t = some (.map k e)) (hk : Try.prog.underlying k = some .string) (z : Value) (hz : ∀ w, (zeroValue e).run Try.prog w = .ok z w) (h : MapS w m L) (x : ByteArray) (ok : Bool) :
    (Instr.lookup t (.map (some m)) (.string x) ok).run Try.prog w = .ok (if ok then .tuple #[(lkp x L).getD z, .bool (lkp x L).isSome] else (lkp x L).getD z) w := by
  obtain ⟨es, clock, hb, hL⟩ := h
  have hf := findNow_fnd x es.toList L 0 hL
  have hc : (Instr.checkKey es.isEmpty 10000 k (.string x)).run Try.prog w = .ok () w := MapKept.run_checkKey (k := .string x) hk (by simp [MapKept.IsKey]) _ 9999
  have hfk := MapKept.run_findKey (w := w) (P := Try.prog) hk hf
  unfold lkp
  cases hq : fnd x L 0 with
  | none =>
    rw [hq] at hfk
    cases ok <;> simp [Instr.lookup, run_underlying ht, MapKept.run_getObj_map hb, hc, hfk, hz]
  | some p =>
    rw [hq] at hfk
    cases ok <;> simp [Instr.lookup, run_underlying ht, MapKept.run_getObj_map hb, hc, hfk]
theorem run_updateS (t e k : TypeId) (ht : Try.prog.underlying t = some (.map k e)) (hk : Try.prog.underlying k = some .string) (h : MapS w m L) (x : ByteArray) (v : Value) :
    ∃ o, (Instr.mapUpdate t (.map (some m)) (.string x) v).run Try.prog w = .ok () { w with heap := w.heap.setIfInBounds m o } ∧ MapS { w with heap := w.heap.setIfInBounds m o } m (upd x v L) := by
  obtain ⟨es, clock, hb, hL⟩ := h
  have hm : m < w.heap.size := blk_lt hb
  have hf := findNow_fnd x es.toList L 0 hL
  have hc : (Instr.checkKey false 10000 k (.string x)).run Try.prog w = .ok () w := MapKept.run_checkKey (k := .string x) hk (by simp [MapKept.IsKey]) _ 9999
  have hfk := MapKept.run_findKey (w := w) (P := Try.prog) hk hf
  have hat : ∀ o, ({ w with heap := w.heap.setIfInBounds m o } : World).heap[m]? = some o := fun o => by simp [hm]
  unfold upd
  cases hq : fnd x L 0 with
  | none =>
    rw [hq] at hfk
    refine ⟨.map (es.push { key := .string x, val := v, born := clock }) (clock + 1), by simp [Instr.mapUpdate, run_underlying ht, MapKept.run_getObj_map hb, hc, hfk, MapKept.run_setObj_map _ hb], _, _, hat _, by simp [hL]⟩
  | some p =>
    obtain ⟨j, u⟩ := p
    rw [hq] at hfk
    obtain ⟨_, hj, hat2⟩ := fnd_at x L 0 j u hq
    have hj' : j < es.size := by rw [MapS.len hL]; omega
    have hkey : (((es[j]?).map (·.key)).getD (.string x)) = .string x := by
      have := congrArg (fun l => l[j]?) hL
      simp only [List.getElem?_map, Nat.sub_zero] at this hat2
      rw [hat2] at this
      rw [Array.getElem?_toList] at this
      cases he : es[j]? with
      | none => rfl
      | some e => rw [he] at this; simp at this; simp [this.1]
    refine ⟨.map (es.modify j fun e => { e with key := .string x, val := v }) clock, ?_, _, _, hat _, ?_⟩
    · have hxx : (x == x) = true := (MapKept.bytes_beq x x).2 rfl
      simp [Instr.mapUpdate, run_underlying ht, MapKept.run_getObj_map hb, hc, hfk, MapKept.run_setObj_map _ hb, hkey, Instr.keyThatStays, Instr.sameBits, hxx]
    · apply List.ext_getElem?
      intro i
      have hLi := congrArg (fun l => l[i]?) hL
      simp only [List.getElem?_map, Array.getElem?_toList] at hLi
      simp only [List.getElem?_map, Array.getElem?_toList, Array.getElem?_modify]
      by_cases hij : j = i
      · subst hij
        simp [hj', show j < L.length by omega, List.getElem?_set]
      · simp [hij, List.getElem?_set, hLi]
theorem run_deleteS (t e k : TypeId) (ht : Try.prog.underlying t = some (.map k e)) (hk : Try.prog.underlying k = some .string) (h : MapS w m L) (x : ByteArray) (ty : TypeId) (u : TypeId) :
    ∃ o, (Builtin.delete_ #[t, u] ty #[.map (some m), .string x]).run Try.prog w = .ok (.tuple #[]) { w with heap := w.heap.setIfInBounds m o } ∧ MapS { w with heap := w.heap.setIfInBounds m o } m (del x L) := by
  obtain ⟨es, clock, hb, hL⟩ := h
  have hm : m < w.heap.size := blk_lt hb
  have hf := findNow_fnd x es.toList L 0 hL
  have hc : (Instr.checkKey es.isEmpty 10000 k (.string x)).run Try.prog w = .ok () w := MapKept.run_checkKey (k := .string x) hk (by simp [MapKept.IsKey]) _ 9999
  have hfk := MapKept.run_findKey (w := w) (P := Try.prog) hk hf
  have hat : ∀ o, ({ w with heap := w.heap.setIfInBounds m o } : World).heap[m]? = some o := fun o => by simp [hm]
  unfold del
  cases hq : fnd x L 0 with
  | none =>
    rw [hq] at hfk
    exact ⟨.map es clock, by simp [Builtin.delete_, run_underlying ht, MapKept.run_getObj_map hb, hc, hfk, MapKept.run_setObj_map _ hb], _, _, hat _, hL⟩
  | some p =>
    obtain ⟨j, u'⟩ := p
    rw [hq] at hfk
    obtain ⟨_, hj, hat2⟩ := fnd_at x L 0 j u' hq
    have hj' : j < es.size := by rw [MapS.len hL]; omega
    refine ⟨.map (es.eraseIdxIfInBounds j) clock, by simp [Builtin.delete_, run_underlying ht, MapKept.run_getObj_map hb, hc, hfk, MapKept.run_setObj_map _ hb], _, _, hat _, ?_⟩
    simp only [Array.eraseIdxIfInBounds, hj', dite_true, Array.toList_eraseIdx]
    rw [eraseIdx_mapped, eraseIdx_mapped, hL]
theorem setObj_ks (w : World) (m : Nat) (o : Obj) : KS w { w with heap := w.heap.setIfInBounds m o } (fun k => k = m) :=
  ⟨⟨by simp, fun i hi hn => by
    show (w.heap.setIfInBounds m o)[i]? = _
    rw [Array.getElem?_setIfInBounds]
    rw [if_neg (fun e => hn e.symm)]⟩, rfl, rfl, rfl⟩
theorem MapS.ks {w' : World} {S : Nat → Prop} (h : MapS w m L) (hk : KS w w' S) (hn : ¬ S m) : MapS w' m L := by
  obtain ⟨es, clock, hb, hL⟩ := h
  exact ⟨es, clock, blk_ks hb hk hn, hL⟩
theorem MapS.below {w' : World} (h : MapS w m L) (hb : Below w.heap.size w w') : MapS w' m L := by
  obtain ⟨es, clock, h1, hL⟩ := h
  exact ⟨es, clock, blk_below h1 hb, hL⟩
theorem MapS.alloc (h : MapS w m L) (o : Obj) : MapS (w.alloc o) m L := h.below (below_alloc (Below.refl _ _) o)
theorem MapS.lt (h : MapS w m L) : m < w.heap.size := by obtain ⟨es, clock, h1, _⟩ := h; exact blk_lt h1
theorem MapS.new (w : World) : MapS (w.alloc (.map #[] 0)) w.heap.size [] := ⟨_, _, blk_new w _, rfl⟩
end
end Go.Proofs.Ytlfckoeolcnniaa.Net
