/- Walks of disk: units, does. -/
import Derived.Test.YtlfckoeolcnniaaDkA
import Derived.Deep.RegionHeldLaw
import Derived.Deep.DrawnRows
import Derived.Deep.QuietTactic
import Derived.BigQuiet
import Derived.Outline
namespace Go.Proofs.Ytlfckoeolcnniaa.Net
open Go.RowKit Go.Proofs.YtlfckoeolcnniaaW.PrintWords Go.Proofs.YtlfckoeolcnniaaW.PrintLast Go.Proofs.YtlfckoeolcnniaaW.PrintMore
set_option linter.unusedVariables false
set_option linter.unusedSimpArgs false
attribute [local go_sem ↓] Go.wp_at_zero Go.wp_at_succ
/-- bytes that are read, in a block of bytes -/
def ByR (w : World) (v : Value) (bs : List Int) : Prop := RdB w v bs ∧ CapOk v ∧ ∀ a n c, v = .slice (some a) n c → ∃ cs f, w.heap[a.block]? = some (.cells cs 5 f)
theorem ByR.of_has {w : World} {base : Nat} {v : Value} {bs : List Int} (h : HasB w base v bs) : ByR w v bs := by
  refine ⟨RdB.of_has h, (by obtain ⟨A, c, e, hc⟩ := own_cap h; exact ⟨A, _, c, e, hc⟩), fun a n c e => ?_⟩
  subst e
  rcases h.2 with ⟨e, _⟩ | ⟨g, cap, cur, e, _, hg, _⟩
  · cases e
  · injection e with e1 _ _
    injection e1 with e1
    subst e1
    exact ⟨_, _, hg⟩
theorem ByR.ks {w w' : World} {v : Value} {bs : List Int} {S : Nat → Prop} (h : ByR w v bs) (hk : KS w w' S) (hS : ∀ k, S k → (∃ cs f, w.heap[k]? = some (.cells cs 5 f)) → False) : ByR w' v bs := by
  obtain ⟨⟨A, c, rfl, h1, h2⟩, hcap, h3⟩ := h
  have keep : ∀ a, A = some a → w'.heap[a.block]? = w.heap[a.block]? := fun a ha => by
    subst ha
    obtain ⟨cs, f, hb⟩ := h3 a _ _ rfl
    rw [blk_ks hb hk (fun hs => hS _ hs ⟨cs, f, hb⟩), hb]
  refine ⟨⟨A, c, rfl, h1, fun a ha j u hu => ?_⟩, hcap, fun a n c' e => ?_⟩
  · rw [← h2 a ha j u hu]
    have hab : (a.add j).block = a.block := by unfold Addr.add; split <;> rfl
    unfold World.cell?
    rw [hab, keep a ha]
  · injection e with e1 _ _
    obtain ⟨cs, f, hb⟩ := h3 a _ _ (by rw [e1])
    exact ⟨cs, f, by rw [keep a e1, hb]⟩
theorem ByR.below {w w' : World} {v : Value} {bs : List Int} (h : ByR w v bs) (hb : Below w.heap.size w w') : ByR w' v bs := h.ks (KS.of_below hb (fun _ => False)) (fun k h _ => h)
theorem ByR.form {w : World} {v : Value} {bs : List Int} (h : ByR w v bs) : ∃ A c, v = .slice A bs.length c ∧ bs.length ≤ c := by obtain ⟨⟨A, c, e, _⟩, ⟨A', n', c', e', hc⟩, _⟩ := h; rw [e] at e'; injection e' with _ e2 e3; exact ⟨A, c, e, by omega⟩
theorem ByR.nil (w : World) : ByR w (.slice none 0 0) [] := ⟨RdB.none0 w none, ⟨_, _, _, rfl, Nat.le_refl _⟩, fun a n c e => by cases e⟩
theorem append_full (w : World) (ty : TypeId) (A : Option Addr) (n c : Nat) (obs bs : List Int) (vb : Value) (ho : RdB w (.slice A n c) obs) (hb : RdB w vb bs) (hp : 0 < bs.length) (hl : bs.length ≤ 1000000) (hn : n ≤ 1000000) :
    ∃ v' w', (Builtin.append_ #[27, 27] ty #[.slice A n n, vb]).run Try.prog w = .ok v' w' ∧ HasB w' w.heap.size v' (obs ++ bs) ∧ w.grownBy w' none := by
  obtain ⟨i0, hi, hz0, hz1, hz2⟩ := info_parts info5
  obtain ⟨A', c', e, h1, h2⟩ := ho
  injection e with e1 e2 e3
  subst e1
  obtain ⟨B, cb, rfl, k1, k2⟩ := hb
  cases B with
  | none => rw [(k1 rfl).1] at hp; simp at hp
  | some b =>
    have hlb : (bs.map (Value.int .u8)).length = bs.length * 1 := by simp
    cases A with
    | none =>
      obtain ⟨rfl, rfl⟩ := h1 rfl
      obtain rfl : n = 0 := e2
      obtain ⟨v', w', hrun, r1, r2, _⟩ := run_append_own (P := Try.prog) w w.heap.size 27 ty 5 i0 (.int .u8 0) 1 1 Try.underlying27 hi hz0 hz1 hz2 rfl (by decide) (.slice none 0 0) 0 [] (World.ownsRow_nil w _ 5 1) b bs.length cb (bs.map (Value.int .u8)) hlb (fun j u hu => k2 b rfl j u hu) (by intro u hu; obtain ⟨x, _, rfl⟩ := List.mem_map.1 hu; rfl) (by unfold maxLen; omega) (by omega) (Nat.le_refl _)
      exact ⟨v', w', hrun, by simpa using r1, r2⟩
    | some a =>
      obtain ⟨v', w', hrun, r1, r2⟩ := run_append_arg_grows (P := Try.prog) w 27 ty 5 i0 (.int .u8 0) 1 1 Try.underlying27 hi hz0 hz1 hz2 rfl (by decide) a n n (obs.map (Value.int .u8)) (by rw [List.length_map, ← e2]; omega) (fun j u hu => h2 a rfl j u hu) b bs.length cb (bs.map (Value.int .u8)) hlb (fun j u hu => k2 b rfl j u hu) (by omega) (by unfold maxLen; omega) (by omega)
      refine ⟨v', w', hrun, ?_, r2⟩
      show w'.ownsRow _ _ _ _ (obs ++ bs).length ((obs ++ bs).map _)
      rw [List.map_append, List.length_append, ← e2]
      exact r1
theorem append_exec {o : Oper} {a : Act} {W w1 : World} {v vs vx : Value} {sx x : Operand} {t : TypeId} (hop : o.op = .call { callee := .builtin .append, args := #[sx, x], argTypes := #[t, t] }) (hs : a.eval sx = vs) (hx : a.eval x = vx) (hrun : (Builtin.append_ #[t, t] o.type #[vs, vx]).run Try.prog W = .ok v w1) : (execOp a.eval o).run Try.prog W = .ok (.value v) w1 := by
  unfold execOp
  simp only [hop, resolve, invoke, builtin, Sem.run_bind, Sem.run_pure, Result.andThen_ok, List.map_toArray, List.map_cons, List.map_nil, hs, hx, hrun]
set_option maxHeartbeats 8000000 in
set_option maxRecDepth 100000 in
theorem units_calls (w : World) (kind : Int) (name to_ : ByteArray) (A : Option Addr) (n c : Nat) : Calls Try.prog 47 #[.agg #[.int .i64 kind, .string name, .string to_, .slice A n c]] w fun e w' => e = .returned (.int .i64 (if kind = 0 then (n : Int) else 1)) ∧ Below w.heap.size w w' := by
  by_cases hk : kind = 0
  · subst hk
    go_enter Try.func47, Try.ntmps47
    go_wp2
    go_ret
    exact ⟨rfl, below_alloc (Below.refl _ _) _⟩
  · have q1 : (kind == 0) = false := by simpa using hk
    rw [if_neg hk]
    clear hk
    go_enter Try.func47, Try.ntmps47
    go_wp2
    go_ret
    exact ⟨rfl, below_alloc (Below.refl _ _) _⟩
theorem MapS.no_cells {w : World} {m : Nat} {L : Ents} (h : MapS w m L) {cs : Array Value} {t : TypeId} {f : Nat × Nat} (hb : w.heap[m]? = some (.cells cs t f)) : False := by
  obtain ⟨es, clock, h1, _⟩ := h
  rw [h1] at hb
  cases hb
theorem zero27 : ∀ w : World, (zeroValue 27).run Try.prog w = .ok (.slice none 0 0) w := fun w => by kernel_rfl
set_option maxHeartbeats 8000000 in
set_option maxRecDepth 100000 in
theorem does_append (w : World) (m : Nat) (L : Ents) (name to_ : ByteArray) (vb : Value) (obs bs : List Int) (hm : MapS w m L) (ho : ByR w ((lkp name L).getD (.slice none 0 0)) obs) (hb : ByR w vb bs) (hp : 0 < bs.length) (hl : bs.length ≤ 100000) (hol : obs.length ≤ 100000) :
    Calls Try.prog 48 #[.map (some m), .agg #[.int .i64 0, .string name, .string to_, vb]] w fun e w' => e = .returned (.tuple #[]) ∧ ∃ v', MapS w' m (upd name v' L) ∧ ByR w' v' (obs ++ bs) ∧ KS w w' (fun k => k = m) := by
  obtain ⟨Ao, co, eo, hco⟩ := ho.form
  rw [eo] at ho
  obtain ⟨Ab, cb, rfl, _⟩ := hb.form
  have M := Aside0.mk hm
  have O := Aside0.mk ho
  have B := Aside0.mk hb
  have lk := fun (w : World) (h : MapS w m L) => run_lookupS 80 27 9 Try.underlying80 Try.underlying9 _ zero27 h name false
  rw [eo] at lk
  have LK := Aside0.mk lk
  clear hm ho hb eo lk
  have lk1 := LK.out _ (M.out.alloc (.cells #[.int .i64 0, .string name, .string to_, .slice Ab bs.length cb] 79))
  simp only [Bool.false_eq_true, if_false] at lk1
  go_enter Try.func48, Try.ntmps48
  go_wp2
  obtain ⟨W, hW⟩ : ∃ W, w.alloc (.cells #[.int .i64 0, .string name, .string to_, .slice Ab bs.length cb] 79) = W := ⟨_, rfl⟩
  have X : Aside0 (W.heap[w.heap.size]? = some (.cells #[.int .i64 0, .string name, .string to_, .slice Ab bs.length cb] 79 (0, 0))) := ⟨by rw [← hW]; exact blk_new w _⟩
  have c1 : W.drew.cell? ⟨w.heap.size, 1, none⟩ = some (.string name) := (blk_cell (blk_drew X.out) 1).trans rfl
  have c3 : W.drew.cell? ⟨w.heap.size, 3, none⟩ = some (.slice Ab bs.length cb) := (blk_cell (blk_drew X.out) 3).trans rfl
  have M1 : Aside0 (MapS W m L) := ⟨by rw [← hW]; exact M.out.alloc _⟩
  have K1 : Aside0 (KS w W (fun k => k = m)) := ⟨by rw [← hW]; exact (KS.refl w _).alloc _⟩
  have HWS : Aside0 (Below w.heap.size w W) := ⟨by rw [← hW]; exact below_alloc (Below.refl _ _) _⟩
  obtain ⟨v', w2, hrun, hH, hg⟩ := append_full W.drew 27 Ao obs.length co obs bs (.slice Ab bs.length cb) (O.out.below (below_drew HWS.out)).1 (B.out.below (below_drew HWS.out)).1 hp (by omega) (by omega)
  have KG : Aside0 (KS w w2 (fun k => k = m)) := ⟨KS.of_grown hg (K1.out.drew) (fun k hk => nomatch hk)⟩
  have M2 : Aside0 (MapS w2 m L) := ⟨by
    obtain ⟨es, clock, h1, h2⟩ := M1.out
    exact ⟨es, clock, blk_grown (blk_drew h1) hg (fun e => nomatch e), h2⟩⟩
  have d1 : w2.cell? ⟨w.heap.size, 1, none⟩ = some (.string name) := (blk_cell (blk_grown (blk_drew X.out) hg (fun e => nomatch e)) 1).trans rfl
  have d3 : w2.cell? ⟨w.heap.size, 3, none⟩ = some (.slice Ab bs.length cb) := (blk_cell (blk_grown (blk_drew X.out) hg (fun e => nomatch e)) 3).trans rfl
  obtain ⟨o, hup, hM3⟩ := run_updateS 80 27 9 Try.underlying80 Try.underlying9 M2.out name v'
  have HH : Aside0 (ByR w2 v' (obs ++ bs)) := ⟨ByR.of_has hH⟩
  have k3 := setObj_ks w2 m o
  obtain ⟨w3, hw3⟩ : ∃ w3 : World, { w2 with heap := w2.heap.setIfInBounds m o } = w3 := ⟨_, rfl⟩
  rw [hw3] at hup hM3 k3
  have hne : w.heap.size ≠ m := by have := M.out.lt; omega
  have X3 := blk_ks (blk_grown (blk_drew X.out) hg (fun e => nomatch e)) k3 hne
  have e1 : w3.cell? ⟨w.heap.size, 1, none⟩ = some (.string name) := (blk_cell X3 1).trans rfl
  have e3 : w3.cell? ⟨w.heap.size, 3, none⟩ = some (.slice Ab bs.length cb) := (blk_cell X3 3).trans rfl
  have K3 := Aside0.mk k3
  have M3 := Aside0.mk hM3
  clear hw3 X3 k3
  have b1 : (0 : Int) ≤ (obs.length : Int) := by omega
  have b2 : (obs.length : Int) ≤ (co : Int) := by omega
  rw [hW]
  clear hW hH hg hM3 lk1
  go_region_held_law (fun w' => w'.cell? ⟨w.heap.size, 1, none⟩ = some (.string name) ∧ w'.cell? ⟨w.heap.size, 3, none⟩ = some (.slice Ab bs.length cb)) (first | exact ⟨c1, c3⟩ | exact ⟨d1, d3⟩ | exact ⟨e1, e3⟩) (refine event_step (w1 := w2) (v := v') (by rfl) (append_exec rfl (by rfl) (by rfl) hrun) ?_)
  go_wp2
  go_end0
  exact ⟨rfl, v', M3.out, HH.out.ks K3.out (fun k hk ⟨cs, f, hb⟩ => M2.out.no_cells (hk ▸ hb)), KG.out.then_ K3.out (fun k h => .inl h)⟩
theorem upd_run {w : World} {m : Nat} {L : Ents} (h : MapS w m L) (x : ByteArray) (v : Value) : ∃ w3, (Instr.mapUpdate 80 (.map (some m)) (.string x) v).run Try.prog w = .ok () w3 ∧ MapS w3 m (upd x v L) ∧ KS w w3 (fun k => k = m) := by
  obtain ⟨o, h1, h2⟩ := run_updateS 80 27 9 Try.underlying80 Try.underlying9 h x v
  exact ⟨_, h1, h2, setObj_ks w m o⟩
theorem del_run {w : World} {m : Nat} {L : Ents} (h : MapS w m L) (x : ByteArray) : ∃ w3, (Builtin.delete_ #[80, 9] 0 #[.map (some m), .string x]).run Try.prog w = .ok (.tuple #[]) w3 ∧ MapS w3 m (del x L) ∧ KS w w3 (fun k => k = m) := by
  obtain ⟨o, h1, h2⟩ := run_deleteS 80 27 9 Try.underlying80 Try.underlying9 h x 0 9
  exact ⟨_, h1, h2, setObj_ks w m o⟩
theorem set_same (w w3 : World) {m : Nat} {o : Obj} (h : ({ w with heap := w.heap.setIfInBounds m o } : World) = w3) : KS w w3 (fun k => k = m) := h ▸ setObj_ks w m o
set_option maxHeartbeats 8000000 in
set_option maxRecDepth 100000 in
theorem does_create (w : World) (m : Nat) (L : Ents) (name to_ : ByteArray) (A : Option Addr) (n c : Nat) (hm : MapS w m L) :
    Calls Try.prog 48 #[.map (some m), .agg #[.int .i64 1, .string name, .string to_, .slice A n c]] w fun e w' => e = .returned (.tuple #[]) ∧ ∃ v', MapS w' m (upd name v' L) ∧ ByR w' v' [] ∧ KS w w' (fun k => k = m) := by
  have M := Aside0.mk hm
  have M1 := Aside0.mk ((hm.alloc (.cells #[.int .i64 1, .string name, .string to_, .slice A n c] 79)).alloc (.cells #[] 5))
  have hE := own_empty (w.alloc (.cells #[.int .i64 1, .string name, .string to_, .slice A n c] 79))
  rw [show (w.alloc (.cells #[.int .i64 1, .string name, .string to_, .slice A n c] 79)).heap.size = w.heap.size + 1 by simp] at hE
  have hB : HasB ((w.alloc (.cells #[.int .i64 1, .string name, .string to_, .slice A n c] 79)).alloc (.cells #[] 5)) (w.heap.size + 1) (.slice (some ⟨w.heap.size + 1, 0, none⟩) 0 0) [] := hE
  have HE := Aside0.mk (ByR.of_has hB)
  obtain ⟨w3, hup, hM3, k3⟩ := upd_run M1.out name (.slice (some ⟨w.heap.size + 1, 0, none⟩) 0 0)
  have K3 := Aside0.mk k3
  have M3 := Aside0.mk hM3
  clear hm hM3 hE hB k3
  go_enter Try.func48, Try.ntmps48
  go_wp2
  go_end0
  exact ⟨rfl, _, M3.out, HE.out.ks K3.out (fun k hk ⟨cs, f, hb⟩ => M1.out.no_cells (hk ▸ hb)), (((KS.refl w _).alloc _).alloc _).then_ K3.out (fun k h => .inl h)⟩
set_option maxHeartbeats 8000000 in
set_option maxRecDepth 100000 in
theorem does_rename (w : World) (m : Nat) (L : Ents) (name to_ : ByteArray) (A : Option Addr) (n c : Nat) (v : Value) (hm : MapS w m L) (hv : lkp name L = some v) (h1 : v.oneCell' = true) :
    Calls Try.prog 48 #[.map (some m), .agg #[.int .i64 2, .string name, .string to_, .slice A n c]] w fun e w' => e = .returned (.tuple #[]) ∧ MapS w' m (upd to_ v (del name L)) ∧ KS w w' (fun k => k = m) := by
  have M := Aside0.mk hm
  have M1 := Aside0.mk (hm.alloc (.cells #[.int .i64 2, .string name, .string to_, .slice A n c] 79))
  have lk1 := run_lookupS 80 27 9 Try.underlying80 Try.underlying9 _ zero27 M1.out name true
  simp only [if_true, hv, Option.getD_some, Option.isSome_some] at lk1
  obtain ⟨w2, hde, hM2, k2⟩ := del_run M1.out name
  have K2 := Aside0.mk k2
  have M2 := Aside0.mk hM2
  have X2 := blk_ks (blk_new w _) K2.out (by have := hm.lt; omega)
  have c2 : w2.cell? ⟨w.heap.size, 2, none⟩ = some (.string to_) := (blk_cell X2 2).trans rfl
  obtain ⟨w3, hup, hM3, k3⟩ := upd_run M2.out to_ v
  have K3 := Aside0.mk k3
  have M3 := Aside0.mk hM3
  clear hm hM3 hM2 X2 hv k2 k3
  go_enter Try.func48, Try.ntmps48
  go_wp2
  go_end0
  exact ⟨rfl, M3.out, (((KS.refl w _).alloc _).then_ K2.out (fun k h => .inl h)).then_ K3.out (fun k h => .inl h)⟩
end Go.Proofs.Ytlfckoeolcnniaa.Net
