/- Walks of disk: do. -/
import Derived.Test.YtlfckoeolcnniaaDkC
import Derived.Deep.RegionLaw
namespace Go.Proofs.Ytlfckoeolcnniaa.Net
open Go.RowKit Go.Proofs.YtlfckoeolcnniaaW.PrintWords Go.Proofs.YtlfckoeolcnniaaW.PrintLast Go.Proofs.YtlfckoeolcnniaaW.PrintMore
set_option linter.unusedVariables false
set_option linter.unusedSimpArgs false
attribute [local go_sem ↓] Go.wp_at_zero Go.wp_at_succ
/-- what was done: kind, name, the other name, bytes -/
abbrev Deed := Int × ByteArray × ByteArray × Value
def flatA : List Deed → List Value
  | [] => []
  | x :: r => .int .i64 x.1 :: .string x.2.1 :: .string x.2.2.1 :: x.2.2.2 :: flatA r
theorem flatA_len : ∀ l : List Deed, (flatA l).length = l.length * 4
  | [] => rfl
  | x :: r => by simp only [flatA, List.length_cons, flatA_len r]; omega
theorem flatA_app : ∀ (l r : List Deed), flatA (l ++ r) = flatA l ++ flatA r
  | [], r => rfl
  | x :: l, r => by simp only [List.cons_append, flatA, flatA_app l r]
theorem info79 : (Try.prog.info? 79).map (fun i => (i.zero, i.size, i.bytes)) = some (some (.agg #[.int .i64 0, .string ⟨#[]⟩, .string ⟨#[]⟩, .slice none 0 0]), 4, 64) := by kernel_rfl
theorem no_two {w : World} {k : Nat} {cs cs' : Array Value} {t t' : TypeId} {f f' : Nat × Nat} (h : w.heap[k]? = some (.cells cs t f)) (h' : w.heap[k]? = some (.cells cs' t' f')) (hne : t ≠ t') : False := by
  rw [h] at h'
  injection h' with h'
  injection h' with _ h2 _
  exact hne h2
/-- a disk -/
structure Dk (w : World) (base p f s : Nat) (F S : Ents) (b u : Nat) (va : Value) (A : List Deed) : Prop where
  blk : w.heap[p]? = some (.cells #[.map (some f), .map (some s), .int .i64 (b : Nat), .int .i64 (u : Nat), va] 84 (0, 0))
  mf : MapS w f F
  ms : MapS w s S
  ne : f ≠ s
  bp : base ≤ p
  bf : base ≤ f
  bs : base ≤ s
  row : w.ownsRow base 79 4 va A.length (flatA A)
set_option maxHeartbeats 16000000 in
set_option maxRecDepth 100000 in
theorem do_calls (w : World) (base p f s : Nat) (F S : Ents) (b u : Nat) (va : Value) (A : List Deed) (kind : Int) (name to_ : ByteArray) (vb : Value) (bs nb : List Int) (un : Nat) (G : Ents → Value → Prop) (hD : Dk w base p f s F S b u va A) (hbase : base ≤ w.heap.size) (hA : A.length ≤ 1000) (hu : u ≤ 1000000000) (hv : ByR w vb bs)
    (hun : (un : Int) = if kind = 0 then (bs.length : Int) else 1) (hpos : 0 < un) (hul : un ≤ 1000000)
    (hd : ∀ W, Below w.heap.size w W → Calls Try.prog 48 #[.map (some f), .agg #[.int .i64 kind, .string name, .string to_, vb]] W fun e w' => e = .returned (.tuple #[]) ∧ ∃ F' v', G F' v' ∧ MapS w' f F' ∧ ByR w' v' nb ∧ KS W w' (fun k => k = f)) :
    Calls Try.prog 45 #[.pointer (some ⟨p, 0, none⟩), .agg #[.int .i64 kind, .string name, .string to_, vb]] w fun e w' => e = .returned (.tuple #[]) ∧ ∃ F' v' va', G F' v' ∧ Dk w' base p f s F' S b (u + un) va' (A ++ [(kind, name, to_, vb)]) ∧ ByR w' v' nb ∧ KS w w' (fun k => k = f ∨ k = p ∨ va.ownBlock = some k) := by
  obtain ⟨i0, hi, hz0, hz1, hz2⟩ := info_parts info79
  obtain ⟨Ab, cb, rfl, _⟩ := hv.form
  obtain ⟨Aa, ca, rfl⟩ := own_slice hD.row
  have D := Aside0.mk hD
  have V := Aside0.mk hv
  have HD := Aside0.mk hd
  have HUN := Aside0.mk hun
  have q1 : decide ((0 : Int) < (un : Int)) = true := decide_eq_true (by omega)
  obtain ⟨W, hW⟩ : ∃ W, w.alloc (.cells #[.int .i64 kind, .string name, .string to_, .slice Ab bs.length cb] 79) = W := ⟨_, rfl⟩
  have X : Aside0 (W.heap[w.heap.size]? = some (.cells #[.int .i64 kind, .string name, .string to_, .slice Ab bs.length cb] 79 (0, 0))) := ⟨by rw [← hW]; exact blk_new w _⟩
  have HWB : Aside0 (Below w.heap.size w W) := ⟨by rw [← hW]; exact below_alloc (Below.refl _ _) _⟩
  have a0 := (blk_cell X.out 0).trans rfl
  have a1 := (blk_cell X.out 1).trans rfl
  have a2 := (blk_cell X.out 2).trans rfl
  have a3 := (blk_cell X.out 3).trans rfl
  have HWA := Aside0.mk hW
  clear hD hv hd hun
  go_enter Try.func45, Try.ntmps45
  go_wp2_with (first
    | ((with_reducible refine gate_callee (f := 47) rfl ?_); (try (refine gate_guard (by rfl) ?_; dsimp only)); refine goesL_ (some 8) rfl rfl Try.func47 (by kernel_rfl) rfl #[.agg #[.int .i64 kind, .string name, .string to_, .slice Ab bs.length cb]] rfl (by (try simp only [List.map_toArray, List.map_cons, List.map_nil]); first | done | rfl) ?_; (with_reducible refine (units_calls _ kind name to_ Ab bs.length cb).mono ?_); rintro e w1 ⟨rfl, hb⟩; rw [← HUN.out]; refine ⟨_, rfl, ?_⟩; have B1 := Aside0.mk (below_step HWB.out hb); have X1 := Aside0.mk (blk_below X.out hb); clear hb))
  have P1 : Aside0 (w1.heap[p]? = some (.cells #[.map (some f), .map (some s), .int .i64 (b : Nat), .int .i64 (u : Nat), .slice Aa A.length ca] 84 (0, 0))) := ⟨blk_below (HWB.out.size |> fun _ => D.out.blk) B1.out⟩
  have ML1 : Aside0 (MapS w1 f F) := ⟨D.out.mf.below B1.out⟩
  have pf : p ≠ f := fun e => by subst e; exact D.out.mf.no_cells D.out.blk
  have xf : w.heap.size ≠ f := by have := D.out.mf.lt; omega
  have c0 : w1.drew.cell? ⟨p, 0, none⟩ = some (.map (some f)) := (blk_cell (blk_drew P1.out) 0).trans rfl
  have b0 : w1.drew.cell? ⟨w.heap.size, 0, none⟩ = some (.int .i64 kind) := (blk_cell (blk_drew X1.out) 0).trans rfl
  have b1 : w1.drew.cell? ⟨w.heap.size, 1, none⟩ = some (.string name) := (blk_cell (blk_drew X1.out) 1).trans rfl
  have b2 : w1.drew.cell? ⟨w.heap.size, 2, none⟩ = some (.string to_) := (blk_cell (blk_drew X1.out) 2).trans rfl
  have b3 : w1.drew.cell? ⟨w.heap.size, 3, none⟩ = some (.slice Ab bs.length cb) := (blk_cell (blk_drew X1.out) 3).trans rfl
  go_region_held_law (fun w' => w'.cell? ⟨p, 0, none⟩ = some (.map (some f)) ∧ w'.cell? ⟨w.heap.size, 0, none⟩ = some (.int .i64 kind) ∧ w'.cell? ⟨w.heap.size, 1, none⟩ = some (.string name) ∧ w'.cell? ⟨w.heap.size, 2, none⟩ = some (.string to_) ∧ w'.cell? ⟨w.heap.size, 3, none⟩ = some (.slice Ab bs.length cb)) (first | exact ⟨c0, b0, b1, b2, b3⟩ | exact ⟨d0, e0, e1, e2, e3⟩) ((refine goes_ Try.func48 (by kernel_rfl) rfl #[.map (some f), .agg #[.int .i64 kind, .string name, .string to_, .slice Ab bs.length cb]] (by rfl) rfl rfl (by (try simp only [List.map_toArray, List.map_cons, List.map_nil]); first | done | rfl) ?_; refine (HD.out w1.drew (below_drew B1.out)).mono ?_; rintro e w2 ⟨rfl, F', v', hG, hM, hR, hK⟩; refine ⟨_, rfl, ?_⟩; have GG := Aside0.mk hG; have M2 := Aside0.mk hM; have R2 := Aside0.mk hR; have K2 := Aside0.mk hK; have P2 := Aside0.mk (blk_ks (blk_drew P1.out) hK pf); have X2 := Aside0.mk (blk_ks (blk_drew X1.out) hK xf); have d0 := (blk_cell P2.out 0).trans rfl; have e0 := (blk_cell X2.out 0).trans rfl; have e1 := (blk_cell X2.out 1).trans rfl; have e2 := (blk_cell X2.out 2).trans rfl; have e3 := (blk_cell X2.out 3).trans rfl; clear hG hM hR hK))
  have K02 : Aside0 (KS w w2 (fun k => k = f)) := ⟨(KS.of_below (below_drew B1.out) _).then_ K2.out (fun k h => .inl h)⟩
  have S2 : Aside0 (MapS w2 s S) := ⟨D.out.ms.ks K02.out (fun e => D.out.ne e.symm)⟩
  have O2 : Aside0 (w2.ownsRow base 79 4 (.slice Aa A.length ca) A.length (flatA A)) := ⟨own_kept D.out.row K02.out (fun k hk e => by subst e; obtain ⟨_, cs, h⟩ := own_blk D.out.row hk; exact D.out.mf.no_cells h)⟩
  have z4 : w2.drew.cell? ⟨p, 4, none⟩ = some (.slice Aa A.length ca) := (blk_cell (blk_drew P2.out) 4).trans rfl
  have z4' : ∀ o, (w2.alloc o).drew.cell? ⟨p, 4, none⟩ = some (.slice Aa A.length ca) := fun o => (blk_cell (blk_drew (blk_alloc P2.out o)) 4).trans rfl
  have y0 : w2.drew.cell? ⟨w.heap.size, 0, none⟩ = some (.int .i64 kind) := e0
  have y1 : w2.drew.cell? ⟨w.heap.size, 1, none⟩ = some (.string name) := e1
  have y2 : w2.drew.cell? ⟨w.heap.size, 2, none⟩ = some (.string to_) := e2
  have y3 : w2.drew.cell? ⟨w.heap.size, 3, none⟩ = some (.slice Ab bs.length cb) := e3
  have NP : Aside0 (¬ (Value.slice Aa A.length ca).ownBlock = some p) := ⟨fun e => by obtain ⟨_, cs, h⟩ := own_blk D.out.row e; exact blk_ne h D.out.blk (by decide) rfl⟩
  clear c0 b0 b1 b2 b3 a0 a1 a2 a3
  go_wp2
  go_region_law (refine step_append_lies _ (by rfl) (.tmp 21) (.tmp 23) 82 (by rfl) base 79 i0 _ 4 64 Try.underlying82 hi hz0 hz1 hz2 rfl (by decide) (.slice Aa A.length ca) A.length (flatA A) (by rfl) (O2.out.alloc _) ⟨w2.heap.size, 0, none⟩ 1 1 [.int .i64 kind, .string name, .string to_, .slice Ab bs.length cb] (by rfl) rfl (World.news_of_block (blk_new w2 _)) (by intro u hu; simp at hu; rcases hu with rfl | rfl | rfl | rfl <;> rfl) (by decide) (by unfold maxLen; omega) (by omega) (by have := K02.out.k.1; simp; omega) _ rfl ?_; intro g cap w3 hown hgrow hat hlt; have Z1 := Aside0.mk (blk_grown (blk_alloc (blk_drew P2.out) _) hgrow (fun e => NP.out e.symm)); have t4 := (blk_cell Z1.out 4).trans rfl; have t5 := blk_frozen Z1.out 4; have ZZ := Aside0.mk (And.intro hown (And.intro hgrow (And.intro hat hlt))); clear hown hgrow hat hlt)
  all_goals
    obtain ⟨w4, hw4⟩ : ∃ w4, w3.setCell ⟨p, 4, none⟩ (.slice (some ⟨g, 0, none⟩) (A.length + 1) cap) = w4 := ⟨_, rfl⟩
    have NX : some w.heap.size ≠ (Value.slice Aa A.length ca).ownBlock := fun e => by have := own_lt D.out.row _ e.symm; omega
    have K24 : Aside0 (KS w2 w4 (fun k => k = p ∨ (Value.slice Aa A.length ca).ownBlock = some k)) := ⟨by
      rw [← hw4]
      exact (KS.of_grown ZZ.out.2.1 ((KS.refl w2 (fun k => k = p ∨ (Value.slice Aa A.length ca).ownBlock = some k)).alloc _).drew (fun k hk => .inl (.inr hk))).setCell (p := ⟨p, 4, none⟩) (.inl (.inl rfl)) _⟩
    have P4 : Aside0 (w4.heap[p]? = some (.cells #[.map (some f), .map (some s), .int .i64 (b : Nat), .int .i64 (u : Nat), .slice (some ⟨g, 0, none⟩) (A.length + 1) cap] 84 (0, 0))) := ⟨by rw [← hw4]; exact blk_put Z1.out 4 _ rfl⟩
    have hxp : w.heap.size ≠ p := by have := blk_lt D.out.blk; omega
    have X4 : Aside0 (w4.heap[w.heap.size]? = some (.cells #[.int .i64 kind, .string name, .string to_, .slice Ab bs.length cb] 79 (0, 0))) := ⟨blk_ks X2.out K24.out (by rintro (h | h); exact hxp h; exact NX h.symm)⟩
    have gp : g ≠ p := fun e => by
      subst e
      rcases ZZ.out.2.2.1 with h | h
      · exact NP.out h
      · have := blk_lt P2.out
        simp at h
        omega
    have O4 : Aside0 (w4.ownsRow base 79 4 (.slice (some ⟨g, 0, none⟩) (A.length + 1) cap) (A.length + 1) (flatA A ++ [.int .i64 kind, .string name, .string to_, .slice Ab bs.length cb])) := ⟨by
      rw [← hw4]
      exact own_kept ZZ.out.1 ((KS.refl w3 (fun k => k = p)).setCell (p := ⟨p, 4, none⟩) (.inl rfl) _) (fun k hk e => gp (by injection hk with hk; exact (show g = k from hk).trans e))⟩
    rw [hw4]
    clear hw4 t4 t5 y0 y1 y2 y3 z4 z4' d0 e0 e1 e2 e3
    have u0 : w4.drew.cell? ⟨w.heap.size, 0, none⟩ = some (.int .i64 kind) := (blk_cell (blk_drew X4.out) 0).trans rfl
    have u1 : w4.drew.cell? ⟨w.heap.size, 1, none⟩ = some (.string name) := (blk_cell (blk_drew X4.out) 1).trans rfl
    have u2 : w4.drew.cell? ⟨w.heap.size, 2, none⟩ = some (.string to_) := (blk_cell (blk_drew X4.out) 2).trans rfl
    have u3 : w4.drew.cell? ⟨w.heap.size, 3, none⟩ = some (.slice Ab bs.length cb) := (blk_cell (blk_drew X4.out) 3).trans rfl
    have u4 : w4.drew.cell? ⟨p, 3, none⟩ = some (.int .i64 (u : Nat)) := (blk_cell (blk_drew P4.out) 3).trans rfl
    have us : IntKind.i64.wrap ((u : Int) + (un : Int)) = (u : Int) + (un : Int) := by rw [IntKind.wrap_i64]; omega
    go_wp2
    go_region_law (refine goes_ Try.func47 (by kernel_rfl) rfl #[.agg #[.int .i64 kind, .string name, .string to_, .slice Ab bs.length cb]] (by rfl) rfl rfl (by (try simp only [List.map_toArray, List.map_cons, List.map_nil]); first | done | rfl) ?_; refine (units_calls w4.drew kind name to_ Ab bs.length cb).mono ?_; rintro e w5 ⟨rfl, hb⟩; rw [← HUN.out]; refine ⟨_, rfl, ?_⟩; have B5 := Aside0.mk hb; have P5 := Aside0.mk (blk_below (blk_drew P4.out) hb); have v3 := (blk_cell P5.out 3).trans rfl; have v4 := blk_frozen P5.out 3; clear hb)
    all_goals go_end0
    all_goals
      have K45 : KS w4 (w5.setCell ⟨p, 3, none⟩ (.int .i64 ((u : Int) + (un : Int)))) (fun k => k = p) := ((((KS.refl w4 (fun k => k = p)).drew).then_ (KS.of_below B5.out (fun k => k = p)) (fun k h => .inl h)).setCell (p := ⟨p, 3, none⟩) (.inl rfl) _)
      have K25 : KS w2 (w5.setCell ⟨p, 3, none⟩ (.int .i64 ((u : Int) + (un : Int)))) (fun k => k = p ∨ (Value.slice Aa A.length ca).ownBlock = some k) := K24.out.then_ K45 (fun k h => .inl (.inl h))
      have NC : ∀ k cs f', (k = p ∨ (Value.slice Aa A.length ca).ownBlock = some k) → w2.heap[k]? = some (.cells cs 5 f') → False := fun k cs f' h hb => by
        rcases h with h | h
        · subst h
          exact no_two P2.out hb (by decide)
        · obtain ⟨_, cs', h'⟩ := own_blk O2.out h
          exact no_two h' hb (by decide)
      refine ⟨rfl, F', v', .slice (some ⟨g, 0, none⟩) (A.length + 1) cap, GG.out, ⟨blk_put P5.out 3 (.int .i64 ((u + un : Nat) : Int)) (by simp), M2.out.ks K25 ?_, S2.out.ks K25 ?_, D.out.ne, D.out.bp, D.out.bf, D.out.bs, ?_⟩, R2.out.ks K25 (fun k h ⟨cs, f', hb⟩ => NC k cs f' h hb), ?_⟩
      · rintro (h | h)
        · exact pf h.symm
        · obtain ⟨_, cs', h'⟩ := own_blk O2.out h
          exact M2.out.no_cells h'
      · rintro (h | h)
        · subst h; exact S2.out.no_cells P2.out
        · obtain ⟨_, cs', h'⟩ := own_blk O2.out h
          exact S2.out.no_cells h'
      · have e : flatA (A ++ [(kind, name, to_, Value.slice Ab bs.length cb)]) = flatA A ++ [.int .i64 kind, .string name, .string to_, .slice Ab bs.length cb] := by rw [flatA_app]; rfl
        rw [e, List.length_append]
        exact own_kept O4.out K45 (fun k hk e => gp (by injection hk with hk; exact (show g = k from hk).trans e))
      · refine K02.out.mono (fun k h => .inl h) |>.then_ K25 (fun k h => .inl (.inr h))
end Go.Proofs.Ytlfckoeolcnniaa.Net
