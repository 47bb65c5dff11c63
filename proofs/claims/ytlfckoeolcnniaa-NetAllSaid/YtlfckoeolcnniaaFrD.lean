/- Walks of the reader: Take, Num. -/
import Derived.Test.YtlfckoeolcnniaaFrC
import Derived.Deep.QuietTactic
import Derived.BigQuiet
namespace Go.Proofs.Ytlfckoeolcnniaa.Net
open Go.RowKit Go.Proofs.YtlfckoeolcnniaaW.PrintWords Go.Proofs.YtlfckoeolcnniaaW.PrintLast Go.Proofs.YtlfckoeolcnniaaW.PrintMore
set_option linter.unusedVariables false
set_option linter.unusedSimpArgs false
theorem KS.drewN {w W : World} {S : Nat → Prop} (h : KS w W S) (n : Nat) : KS w (W.drewN n) S := by
  refine ⟨⟨h.k.1, h.k.2⟩, h.os, h.tape, h.output⟩
theorem blk_drewN {W : World} {g : Nat} {o : Obj} (h : W.heap[g]? = some o) (n : Nat) : (W.drewN n).heap[g]? = some o := h
theorem RdB.sub {w : World} {A : Option Addr} {n c at_ k : Nat} {bs : List Int} (h : RdB w (.slice A n c) bs) (hk : at_ + k ≤ n) : RdB w (.slice (Option.map (fun x => x.add at_) A) k (c - at_)) ((bs.drop at_).take k) := by
  obtain ⟨A', c', e, h1, h2⟩ := h
  injection e with e1 e2 e3
  subst e1; subst e2; subst e3
  have hl : ((bs.drop at_).take k).length = k := by rw [List.length_take, List.length_drop]; omega
  refine ⟨Option.map (fun x => x.add at_) A, c - at_, by rw [hl], fun hA => ?_, fun a ha j u hu => ?_⟩
  · cases A with
    | none => rw [(h1 rfl).1] at hk ⊢; simp at hk ⊢; have := (h1 rfl).2; omega
    | some a => simp at hA
  · cases A with
    | none => simp at ha
    | some a' =>
      simp at ha
      subst ha
      have hj : j < k := by
        have := (List.getElem?_eq_some_iff.1 hu).1
        rw [List.length_map, hl] at this
        exact this
      rw [List.map_take, List.map_drop, List.getElem?_take, if_pos hj, List.getElem?_drop] at hu
      have := h2 a' rfl (at_ + j) u hu
      rw [← this]
      congr 1
      unfold Addr.add
      by_cases h0 : at_ = 0 <;> by_cases h1 : j = 0 <;> simp [h0, h1, Nat.add_assoc]
theorem RdB.none0 (w : World) (A : Option Addr) : RdB w (.slice A 0 0) [] := by
  refine ⟨A, 0, rfl, fun _ => ⟨rfl, rfl⟩, fun a _ j u hu => ?_⟩
  simp at hu
/-- a slice is no longer than it may grow -/
def CapOk (v : Value) : Prop := ∃ A n c, v = .slice A n c ∧ n ≤ c
/-- a reader -/
abbrev Rdr (w : World) (r : Nat) (B : Value) (at_ : Nat) (bad : Bool) : Prop := w.heap[r]? = some (.cells #[B, .int .i64 (at_ : Nat), .bool bad] 73 (0, 0))
set_option maxHeartbeats 8000000 in
set_option maxRecDepth 100000 in
theorem take_bad (w : World) (r n c at_ : Nat) (A : Option Addr) (k : Int) (h : Rdr w r (.slice A n c) at_ true) :
    Calls Try.prog 43 #[.pointer (some ⟨r, 0, none⟩), .int .i64 k] w fun e w' => e = .returned (.slice none 0 0) ∧ Rdr w' r (.slice A n c) at_ true ∧ KS w w' (fun i => i = r) := by
  have X := Aside0.mk h
  have c0 := (blk_cell h 0).trans rfl
  have c1 := (blk_cell h 1).trans rfl
  have c2 := (blk_cell h 2).trans rfl
  have f2 := blk_frozen h 2
  clear h
  go_enter Try.func43, Try.ntmps43
  go_wp2
  go_quiet (fail)
  go_wp2
  go_ret
  exact ⟨rfl, blk_put (blk_drewN X.out _) 2 (.bool true) rfl, ((KS.drewN (KS.refl w (fun i => i = r)) _).setCell (p := ⟨r, 2, none⟩) (.inl rfl) _)⟩
set_option maxHeartbeats 8000000 in
set_option maxRecDepth 100000 in
theorem take_no (w : World) (r n c at_ : Nat) (A : Option Addr) (k : Int) (h : Rdr w r (.slice A n c) at_ false) (hk : k < 0 ∨ (n : Int) - at_ < k) (ha : at_ ≤ n) (hn : n ≤ 1000000000) :
    Calls Try.prog 43 #[.pointer (some ⟨r, 0, none⟩), .int .i64 k] w fun e w' => e = .returned (.slice none 0 0) ∧ Rdr w' r (.slice A n c) at_ true ∧ KS w w' (fun i => i = r) := by
  have X := Aside0.mk h
  have c0 := (blk_cell h 0).trans rfl
  have c1 := (blk_cell h 1).trans rfl
  have c2 := (blk_cell h 2).trans rfl
  have f2 := blk_frozen h 2
  have q1 : IntKind.i64.wrap ((n : Int) - (at_ : Int)) = (n : Int) - (at_ : Int) := by rw [IntKind.wrap_i64]; omega
  clear h
  by_cases hk0 : k < 0
  · have d1 : decide (k < 0) = true := decide_eq_true hk0
    clear hk
    go_enter Try.func43, Try.ntmps43
    go_wp2
    go_quiet (fail)
    go_wp2
    go_ret
    exact ⟨rfl, blk_put (blk_drewN X.out _) 2 (.bool true) rfl, ((KS.drewN (KS.refl w (fun i => i = r)) _).setCell (p := ⟨r, 2, none⟩) (.inl rfl) _)⟩
  · have d1 : decide (k < 0) = false := decide_eq_false hk0
    have d2 : decide ((n : Int) - (at_ : Int) < k) = true := decide_eq_true (by omega)
    clear hk
    go_enter Try.func43, Try.ntmps43
    go_wp2
    go_quiet (fail)
    go_wp2
    go_ret
    exact ⟨rfl, blk_put (blk_drewN X.out _) 2 (.bool true) rfl, ((KS.drewN (KS.refl w (fun i => i = r)) _).setCell (p := ⟨r, 2, none⟩) (.inl rfl) _)⟩
set_option maxHeartbeats 8000000 in
set_option maxRecDepth 100000 in
theorem take_ok (w w0 : World) (r n c at_ k : Nat) (A : Option Addr) (bs : List Int) (h : Rdr w r (.slice A n c) at_ false) (hB : RdB w0 (.slice A n c) bs) (hk : at_ + k ≤ n) (hn : n ≤ 1000000000) (hc : n ≤ c) :
    Calls Try.prog 43 #[.pointer (some ⟨r, 0, none⟩), .int .i64 (k : Nat)] w fun e w' => ∃ v', e = .returned v' ∧ (RdB w0 v' ((bs.drop at_).take k) ∧ CapOk v') ∧ Rdr w' r (.slice A n c) (at_ + k) false ∧ KS w w' (fun i => i = r) := by
  have X := Aside0.mk h
  have c0 := (blk_cell h 0).trans rfl
  have c1 := (blk_cell h 1).trans rfl
  have c2 := (blk_cell h 2).trans rfl
  have f1 := blk_frozen h 1
  have q1 : IntKind.i64.wrap ((n : Int) - (at_ : Int)) = (n : Int) - (at_ : Int) := by rw [IntKind.wrap_i64]; omega
  have q2 : IntKind.i64.wrap ((at_ : Int) + (k : Int)) = (at_ : Int) + (k : Int) := by rw [IntKind.wrap_i64]; omega
  have q3 : IntKind.i64.wrap ((at_ : Int) + (k : Int) - (k : Int)) = (at_ : Int) := by rw [IntKind.wrap_i64]; omega
  have d1 : decide ((k : Int) < 0) = false := decide_eq_false (by omega)
  have d2 : decide ((n : Int) - (at_ : Int) < (k : Int)) = false := decide_eq_false (by omega)
  have b1 : (0 : Int) ≤ (at_ : Int) := by omega
  have b2 : (at_ : Int) ≤ (at_ : Int) + (k : Int) := by omega
  have b3 : (at_ : Int) + (k : Int) ≤ (c : Int) := by omega
  clear h
  go_enter Try.func43, Try.ntmps43
  go_wp2
  go_quiet (fail)
  go_wp2
  have HB := Aside0.mk hB
  clear hB
  go_quiet (fail)
  go_wp2
  · go_ret
    have hk0 : k = 0 := by omega
    subst hk0
    refine ⟨_, rfl, ⟨?_, _, _, _, rfl, Nat.le_refl _⟩, blk_drewN (blk_put (blk_drewN X.out _) 1 (.int .i64 ((at_ + 0 : Nat) : Int)) (by simp <;> omega)) _, (((KS.drewN (KS.refl w (fun i => i = r)) _).setCell (p := ⟨r, 1, none⟩) (.inl rfl) _).drewN _)⟩
    rw [List.take_zero]
    exact RdB.none0 w0 A
  · go_ret
    exact ⟨_, rfl, ⟨HB.out.sub hk, _, _, _, rfl, by omega⟩, blk_drewN (blk_put (blk_drewN X.out _) 1 (.int .i64 ((at_ + k : Nat) : Int)) (by simp)) _, (((KS.drewN (KS.refl w (fun i => i = r)) _).setCell (p := ⟨r, 1, none⟩) (.inl rfl) _).drewN _)⟩
end Go.Proofs.Ytlfckoeolcnniaa.Net
