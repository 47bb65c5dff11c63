/- Walks of disk: Cut. -/
import Derived.Test.YtlfckoeolcnniaaDkF
namespace Go.Proofs.Ytlfckoeolcnniaa.Net
open Go.RowKit Go.Proofs.YtlfckoeolcnniaaW.PrintWords Go.Proofs.YtlfckoeolcnniaaW.PrintLast Go.Proofs.YtlfckoeolcnniaaW.PrintMore
set_option linter.unusedVariables false
set_option linter.unusedSimpArgs false
attribute [local go_sem ↓] Go.wp_at_zero Go.wp_at_succ
/-- a deed's bytes, as far as the units that are left go -/
def cutV (kind : Int) (left : Nat) : Value → Value
  | .slice A n c => if kind = 0 then .slice A (min left n) c else .slice A n c
  | v => v
def unitsV (kind : Int) : Value → Nat
  | .slice _ n _ => if kind = 0 then n else 1
  | _ => 1
theorem ByR.cut {w : World} {A : Option Addr} {n c k : Nat} {bs : List Int} (h : ByR w (.slice A n c) bs) (hk : k ≤ n) : ByR w (.slice A k c) (bs.take k) := by
  obtain ⟨⟨A', c', e, h1, h2⟩, ⟨A2, n2, c2, e2, hc⟩, h3⟩ := h
  injection e with e1 e3 e4
  subst e1
  subst e4
  injection e2 with _ e5 e6
  refine ⟨⟨A, c, by rw [List.length_take, ← e3, Nat.min_eq_left hk], fun hp => ?_, fun a ha j u hu => ?_⟩, ⟨_, _, _, rfl, by omega⟩, fun a m c' e => ?_⟩
  · obtain ⟨h4, h5⟩ := h1 hp
    exact ⟨by rw [h4, List.take_nil], h5⟩
  · refine h2 a ha j u ?_
    rw [List.map_take, List.getElem?_take] at hu
    split at hu
    · exact hu
    · cases hu
  injection e with e _ _
  exact h3 a _ _ (by rw [e])
theorem slice_to (A : Option Addr) (n c h : Nat) (hh : h ≤ n) (hc : n ≤ c) (w : World) : (Instr.sliceAt 27 (.slice A n c) none (some (.int .i64 (h : Int))) none).run Try.prog w = .ok (.slice A h c) w := by
  have e2 : (0 : Int) ≤ (h : Int) := by omega
  have e3 : (h : Int) ≤ (c : Int) := by omega
  by_cases h0 : c = 0
  · subst h0
    obtain rfl : h = 0 := by omega
    go_simp
  · go_simp
theorem MapS_drew {w : World} {m : Nat} {L : Ents} (h : MapS w m L) : MapS w.drew m L := h
/-- what a disk that was cut is -/
structure CutOk (w w' : World) (p' N len : Nat) (I : Nat → Nat → Ents → World → Prop) : Prop where
  out : ∃ f' s' L i l, Dk w' w.heap.size p' f' s' L L N N (.slice none 0 0) [] ∧ (i = len ∨ l = 0) ∧ I i l L w' ∧ Below w.heap.size w w'
theorem flatA_at : ∀ (l : List Deed) (i : Nat) (d : Deed), l[i]? = some d → (flatA l)[i * 4]? = some (.int .i64 d.1) ∧ (flatA l)[i * 4 + 1]? = some (.string d.2.1) ∧ (flatA l)[i * 4 + 2]? = some (.string d.2.2.1) ∧ (flatA l)[i * 4 + 3]? = some d.2.2.2
  | [], _, _, h => by simp at h
  | x :: r, 0, d, h => by
    have e : x = d := by simpa using h
    subst e
    exact ⟨rfl, rfl, rfl, rfl⟩
  | x :: r, i + 1, d, h => by
    have h' : r[i]? = some d := by simpa using h
    have := flatA_at r i d h'
    rw [show (i + 1) * 4 = i * 4 + 4 by omega]
    exact this
theorem acts_at {w : World} {base : Nat} {Aa : Option Addr} {ca : Nat} {A : List Deed} (h : w.ownsRow base 79 4 (.slice Aa A.length ca) A.length (flatA A)) {i : Nat} {d : Deed} (hd : A[i]? = some d) :
    ∃ g, Aa = some ⟨g, 0, none⟩ ∧ w.cell? ⟨g, i * 4, none⟩ = some (.int .i64 d.1) ∧ w.cell? ⟨g, i * 4 + 1, none⟩ = some (.string d.2.1) ∧ w.cell? ⟨g, i * 4 + 2, none⟩ = some (.string d.2.2.1) ∧ w.cell? ⟨g, i * 4 + 3, none⟩ = some d.2.2.2 := by
  have hlt : i < A.length := by
    rcases Nat.lt_or_ge i A.length with h | h
    · exact h
    · rw [List.getElem?_eq_none h] at hd; cases hd
  rcases h.2 with ⟨_, h0⟩ | ⟨g, cap, cur, e, _⟩
  · omega
  · injection e with e _ _
    subst e
    obtain ⟨h0, h1, h2, h3⟩ := flatA_at A i d hd
    have k := fun j u (hj : (flatA A)[j]? = some u) => by
      have hc := h.cells (g := g) rfl j u hj
      rwa [add_plain] at hc
    exact ⟨g, rfl, k _ _ h0, k _ _ h1, k _ _ h2, k _ _ h3⟩
set_option maxHeartbeats 16000000 in
set_option maxRecDepth 100000 in
theorem dcut_calls (w : World) (base p f s : Nat) (F S : Ents) (b u : Nat) (va : Value) (A : List Deed) (x : Int) (N : Nat) (I : Nat → Nat → Ents → World → Prop) (hD : Dk w base p f s F S b u va A) (hbase : base ≤ w.heap.size) (hA : A.length ≤ 1000) (hu : u ≤ 1000000000)
    (hN : min (max x b) u = (N : Int)) (hb : b ≤ N)
    (hI0 : I 0 (N - b) S w)
    (hIb : ∀ (i l : Nat) (L : Ents) (W W' : World) (q : Nat → Prop), I i l L W → KS W W' q → (∀ k, q k → (∃ cs f, W.heap[k]? = some (.cells cs 5 f)) → False) → I i l L W')
    (hform : ∀ (i : Nat) (d : Deed), A[i]? = some d → ∃ Ab n c, d.2.2.2 = .slice Ab n c ∧ n ≤ c ∧ n ≤ 1000000 ∧ (d.1 = 0 → 0 < n))
    (hstep : ∀ (i l : Nat) (L : Ents) (W : World) (m : Nat) (kind : Int) (name to_ : ByteArray) (vb : Value), A[i]? = some (kind, name, to_, vb) → 0 < l → w.heap.size ≤ m → I i l L W → Below w.heap.size w W → MapS W m L → Calls Try.prog 48 #[.map (some m), .agg #[.int .i64 kind, .string name, .string to_, cutV kind l vb]] W fun e w' => e = .returned (.tuple #[]) ∧ ∃ L', MapS w' m L' ∧ I (i + 1) (l - unitsV kind (cutV kind l vb)) L' w' ∧ KS W w' (fun k => k = m)) :
    Calls Try.prog 32 #[.pointer (some ⟨p, 0, none⟩), .int .i64 x] w fun e w' => ∃ p', e = .returned (.pointer (some ⟨p', 0, none⟩)) ∧ CutOk w w' p' N A.length I := by
  obtain ⟨Aa, ca, rfl⟩ := own_slice hD.row
  have D := Aside0.mk hD
  have HS := Aside0.mk hstep
  have HF := Aside0.mk hform
  have I0 := Aside0.mk hI0
  have c1 : w.drew.cell? ⟨p, 1, none⟩ = some (.map (some s)) := (blk_cell (blk_drew hD.blk) 1).trans rfl
  have c2 : w.cell? ⟨p, 2, none⟩ = some (.int .i64 (b : Nat)) := (blk_cell hD.blk 2).trans rfl
  have c3 : w.cell? ⟨p, 3, none⟩ = some (.int .i64 (u : Nat)) := (blk_cell hD.blk 3).trans rfl
  clear hD hstep hform hI0
  go_enter Try.func32, Try.ntmps32
  go_wp2
  go_quiet (fail)
  have C1 : (w.drewN nq).cell? ⟨p, 1, none⟩ = some (.map (some s)) := c1
  have C2 : (w.drewN nq).cell? ⟨p, 2, none⟩ = some (.int .i64 (b : Nat)) := c2
  go_wp2_with (first
    | ((with_reducible refine gate_callee (f := 46) rfl ?_); refine goesL_ (some 26) rfl rfl Try.func46 (by kernel_rfl) rfl #[.map (some s)] rfl (by (try simp only [List.map_toArray, List.map_cons, List.map_nil]); first | done | rfl) ?_; (refine (mclone_calls (w.drewN nq) s S D.out.ms).mono ?_); rintro e w1 ⟨m, rfl, hm, hM, hb1⟩; refine ⟨_, rfl, ?_⟩; have M1 := Aside0.mk hM; have B1 := Aside0.mk hb1; have P1 := Aside0.mk (blk_below (blk_drewN D.out.blk nq) hb1); have d2 : ∀ o, (w1.alloc o).cell? ⟨p, 2, none⟩ = some (.int .i64 (b : Nat)) := (fun o => (blk_cell (blk_alloc P1.out o) 2).trans rfl); have d4 : ∀ o, (w1.alloc o).cell? ⟨p, 4, none⟩ = some (.slice Aa A.length ca) := (fun o => (blk_cell (blk_alloc P1.out o) 4).trans rfl); clear hM hb1))
  have hm' : w.heap.size ≤ m := hm
  have hml := M1.out.lt
  have C0 : Aside0 ((w1.alloc (.cells #[.map (some m), .map none, .int .i64 (N : Nat), .int .i64 (N : Nat), .slice none 0 0] 84)).heap[w1.heap.size]? = some (.cells #[.map (some m), .map none, .int .i64 (N : Nat), .int .i64 (N : Nat), .slice none 0 0] 84 (0, 0))) := ⟨blk_new w1 _⟩
  have BW : Aside0 (Below w.heap.size w (w1.alloc (.cells #[.map (some m), .map none, .int .i64 (N : Nat), .int .i64 (N : Nat), .slice none 0 0] 84))) := ⟨below_alloc (below_drewN (Below.refl _ _) nq |>.trans B1.out) _⟩
  have MW : Aside0 (MapS (w1.alloc (.cells #[.map (some m), .map none, .int .i64 (N : Nat), .int .i64 (N : Nat), .slice none 0 0] 84)) m S) := ⟨M1.out.alloc _⟩
  have q1 : IntKind.i64.wrap ((N : Int) - (b : Int)) = ((N - b : Nat) : Int) := by rw [IntKind.wrap_i64]; omega
  have I00 : Aside0 (I 0 (N - b) S (w1.alloc (.cells #[.map (some m), .map none, .int .i64 (N : Nat), .int .i64 (N : Nat), .slice none 0 0] 84))) := ⟨hIb _ _ _ _ _ (fun _ => False) I0.out (KS.of_below BW.out _) (fun k h _ => h)⟩
  have hNu : N ≤ u := by omega
  obtain ⟨pc, hpc⟩ : ∃ pc, w1.heap.size = pc := ⟨_, rfl⟩
  have hws := B1.out.size
  rw [hpc] at C0 hml ⊢
  generalize w1.alloc (.cells #[.map (some m), .map none, .int .i64 (N : Nat), .int .i64 (N : Nat), .slice none 0 0] 84) = wc at *
  go_loopg [6, 42] (A.length + 2) (fun kq v6 v42 w' => ∃ (i l : Nat) (L : Ents), v6 = .int .i64 (l : Nat) ∧ v42 = .int .i64 (i : Nat) ∧ i ≤ A.length ∧ l ≤ N ∧ A.length - i < kq ∧ Aside0 (I i l L w') ∧ Aside0 (MapS w' m L) ∧ Aside0 (Below w.heap.size w w') ∧ Aside0 (w'.heap[pc]? = some (.cells #[.map (some m), .map none, .int .i64 (N : Nat), .int .i64 (N : Nat), .slice none 0 0] 84 (0, 0))))
  case atStart => exact ⟨0, N - b, S, congrArg (Value.int .i64) (by omega), rfl, Nat.zero_le _, by omega, by omega, I00, MW, BW, C0⟩
  case round =>
    clear C0 BW MW I00
    obtain ⟨i, l, L, rfl, rfl, hi, hlN, hk, HI, M, B, C0⟩ := hrel
    cases gk with
    | zero => omega
    | succ k2 =>
      by_cases c : i < A.length
      · obtain ⟨d, hd⟩ : ∃ d, A[i]? = some d := ⟨_, List.getElem?_eq_getElem c⟩
        obtain ⟨⟨kind, name, to_, vb⟩, rfl⟩ : ∃ d', d' = d := ⟨_, rfl⟩
        obtain ⟨Ab, n, cb, e, hn1, hn2, hn3⟩ := HF.out i _ hd
        obtain rfl : vb = .slice Ab n cb := e
        obtain ⟨g, rfl, e0, e1, e2, e3⟩ := acts_at (pw_own_below D.out.row B.out) hd
        have q2 : decide ((i : Int) < (A.length : Int)) = true := decide_eq_true (by omega)
        have q3 : IntKind.i64.wrap ((i : Int) + 1) = (i : Int) + 1 := by rw [IntKind.wrap_i64]; omega
        by_cases hl : l = 0
        · subst hl
          have CA : Aside0 ((wr.alloc (.cells #[.int .i64 kind, .string name, .string to_, .slice Ab n cb] 79)).heap[pc]? = some (.cells #[.map (some m), .map none, .int .i64 (N : Nat), .int .i64 (N : Nat), .slice none 0 0] 84 (0, 0))) := ⟨blk_alloc C0.out _⟩
          have MA : Aside0 (MapS (wr.alloc (.cells #[.int .i64 kind, .string name, .string to_, .slice Ab n cb] 79)) m L) := ⟨M.out.alloc _⟩
          have BA : Aside0 (Below w.heap.size w (wr.alloc (.cells #[.int .i64 kind, .string name, .string to_, .slice Ab n cb] 79))) := ⟨below_alloc B.out _⟩
          have HA : Aside0 (I i 0 L (wr.alloc (.cells #[.int .i64 kind, .string name, .string to_, .slice Ab n cb] 79))) := ⟨hIb _ _ _ _ _ (fun _ => False) HI.out (KS.of_below (below_alloc (Below.refl _ _) _) _) (fun k h _ => h)⟩
          have z0 := (blk_cell CA.out 0).trans rfl
          go_wp2_with (first
            | ((with_reducible refine gate_callee (f := 46) rfl ?_); refine goesL_ (some 76) rfl rfl Try.func46 (by kernel_rfl) rfl #[.map (some m)] rfl (by (try simp only [List.map_toArray, List.map_cons, List.map_nil]); first | done | rfl) ?_; (refine (mclone_calls _ m L MA.out).mono ?_); rintro e w5 ⟨s5, rfl, hs5, hM5, hb5⟩; refine ⟨_, rfl, ?_⟩; have M5 := Aside0.mk hM5; have B5 := Aside0.mk hb5; have C5 := Aside0.mk (blk_below CA.out hb5); have f5 := blk_frozen C5.out 1; have d5 := (blk_cell C5.out 1).trans rfl; clear hM5 hb5))

          go_ret
          have K5 : KS w5 (w5.setCell ⟨pc, 1, none⟩ (.map (some s5))) (fun k => k = pc) := (KS.refl w5 (fun k => k = pc)).setCell (p := ⟨pc, 1, none⟩) (.inl rfl) _
          have BE : Below w.heap.size w (w5.setCell ⟨pc, 1, none⟩ (.map (some s5))) := below_ks (below_step BA.out B5.out) K5 (fun k h => by rw [h]; omega)
          refine ⟨pc, rfl, ⟨m, s5, L, i, 0, ⟨blk_put C5.out 1 _ rfl, (MA.out.below B5.out).ks K5 (by omega), M5.out.ks K5 ?_, ?_, by omega, hm', ?_, own_nil _ _ _ _⟩, .inr rfl, ?_, BE⟩⟩
          · have h1 := blk_lt CA.out
            omega
          · have h1 := MA.out.lt
            omega
          · have h1 := BA.out.size
            omega
          · refine hIb _ _ _ _ _ _ (hIb _ _ _ _ _ (fun _ => False) HA.out (KS.of_below B5.out _) (fun k h _ => h)) K5 ?_
            rintro k h ⟨cs, f', hb⟩
            have h' : k = pc := h
            subst h'
            exact no_two C5.out hb (by decide)

        · have q4 : decide ((l : Int) ≤ 0) = false := decide_eq_false (by omega)
          have xlt := blk_lt C0.out
          have pcx : pc ≠ wr.heap.size := by omega
          obtain ⟨W, hW⟩ : ∃ W, wr.alloc (.cells #[.int .i64 kind, .string name, .string to_, .slice Ab n cb] 79) = W := ⟨_, rfl⟩
          have X : Aside0 (W.heap[wr.heap.size]? = some (.cells #[.int .i64 kind, .string name, .string to_, .slice Ab n cb] 79 (0, 0))) := ⟨by rw [← hW]; exact blk_new wr _⟩
          have CA : Aside0 (W.heap[pc]? = some (.cells #[.map (some m), .map none, .int .i64 (N : Nat), .int .i64 (N : Nat), .slice none 0 0] 84 (0, 0))) := ⟨by rw [← hW]; exact blk_alloc C0.out _⟩
          have MA : Aside0 (MapS W m L) := ⟨by rw [← hW]; exact M.out.alloc _⟩
          have BA : Aside0 (Below wr.heap.size wr W) := ⟨by rw [← hW]; exact below_alloc (Below.refl _ _) _⟩
          have a0 := (blk_cell X.out 0).trans rfl
          have a1 := (blk_cell X.out 1).trans rfl
          have a2 := (blk_cell X.out 2).trans rfl
          have a3 := (blk_cell X.out 3).trans rfl
          have fx := blk_frozen X.out 3
          have HWA := Aside0.mk hW
          by_cases hk0 : kind = 0
          · subst hk0
            have hn := hn3 rfl
            have run0 := slice_to Ab n cb (min l n) (Nat.min_le_right _ _) hn1
            have hmin : min (l : Int) (n : Int) = ((min l n : Nat) : Int) := by omega
            rw [← hmin] at run0
            go_wp2
            have xm : wr.heap.size ≠ m := by have := M.out.lt; omega
            have pm : pc ≠ m := by omega
            obtain ⟨WQ, hWQ⟩ : ∃ WQ, (W.setCell ⟨wr.heap.size, 3, none⟩ (.slice Ab (min l n) cb)).alloc (.cells #[.int .i64 0, .string name, .string to_, .slice Ab (min l n) cb] 79) = WQ := ⟨_, rfl⟩
            have HWQ := Aside0.mk hWQ
            have KQ : Aside0 (KS W WQ (fun k => k = wr.heap.size)) := ⟨by rw [← hWQ]; exact ((KS.refl W (fun k => k = wr.heap.size)).setCell (p := ⟨wr.heap.size, 3, none⟩) (.inl rfl) _).alloc _⟩
            have X1 : Aside0 (WQ.heap[wr.heap.size]? = some (.cells #[.int .i64 0, .string name, .string to_, .slice Ab (min l n) cb] 79 (0, 0))) := ⟨by rw [← hWQ]; exact blk_alloc (blk_put X.out 3 _ rfl) _⟩
            rw [hWQ]
            have KW : Aside0 (Below wr.heap.size wr WQ) := ⟨below_ks BA.out KQ.out (fun k h => by rw [h]; omega)⟩
            have C1 : Aside0 (WQ.heap[pc]? = some (.cells #[.map (some m), .map none, .int .i64 (N : Nat), .int .i64 (N : Nat), .slice none 0 0] 84 (0, 0))) := ⟨blk_ks CA.out KQ.out pcx⟩
            have M1 : Aside0 (MapS WQ m L) := ⟨M.out.below KW.out⟩
            have B1 : Aside0 (Below w.heap.size w WQ) := ⟨below_step B.out KW.out⟩
            have HI1 : Aside0 (I i l L WQ) := ⟨hIb _ _ _ _ _ (fun _ => False) HI.out (KS.of_below KW.out _) (fun k h _ => h)⟩
            have b0 : WQ.drew.cell? ⟨wr.heap.size, 0, none⟩ = some (.int .i64 0) := (blk_cell (blk_drew X1.out) 0).trans rfl
            have b1 : WQ.drew.cell? ⟨wr.heap.size, 1, none⟩ = some (.string name) := (blk_cell (blk_drew X1.out) 1).trans rfl
            have b2 : WQ.drew.cell? ⟨wr.heap.size, 2, none⟩ = some (.string to_) := (blk_cell (blk_drew X1.out) 2).trans rfl
            have b3 : WQ.drew.cell? ⟨wr.heap.size, 3, none⟩ = some (.slice Ab (min l n) cb) := (blk_cell (blk_drew X1.out) 3).trans rfl
            have CS : Aside0 (Calls Try.prog 48 #[.map (some m), .agg #[.int .i64 0, .string name, .string to_, .slice Ab (min l n) cb]] WQ.drew fun e w' => e = .returned (.tuple #[]) ∧ ∃ L', MapS w' m L' ∧ I (i + 1) (l - min l n) L' w' ∧ KS WQ.drew w' (fun k => k = m)) := ⟨HS.out i l L WQ.drew m 0 name to_ (.slice Ab n cb) hd (by omega) hm' (hIb _ _ _ _ _ (fun _ => False) HI1.out (KS.refl WQ _).drew (fun k h _ => h)) (below_drew B1.out) (MapS_drew M1.out)⟩
            have bc : WQ.drew.cell? ⟨pc, 0, none⟩ = some (.map (some m)) := (blk_cell (blk_drew C1.out) 0).trans rfl
            clear hWQ a0 a1 a2 a3 fx e0 e1 e2 e3
            go_region_held_law (fun w' => w'.cell? ⟨pc, 0, none⟩ = some (.map (some m)) ∧ w'.cell? ⟨wr.heap.size, 0, none⟩ = some (.int .i64 0) ∧ w'.cell? ⟨wr.heap.size, 1, none⟩ = some (.string name) ∧ w'.cell? ⟨wr.heap.size, 2, none⟩ = some (.string to_) ∧ w'.cell? ⟨wr.heap.size, 3, none⟩ = some (.slice Ab (min l n) cb)) (first | exact ⟨bc, b0, b1, b2, b3⟩ | exact ⟨gc, g0, g1, g2, g3⟩) ((refine goes_ Try.func48 (by kernel_rfl) rfl #[.map (some m), .agg #[.int .i64 0, .string name, .string to_, .slice Ab (min l n) cb]] (by rfl) rfl rfl (by (try simp only [List.map_toArray, List.map_cons, List.map_nil]); first | done | rfl) ?_; refine (CS.out).mono ?_; rintro e w2 ⟨rfl, L', hM2, hI2, hK2⟩; refine ⟨_, rfl, ?_⟩; have M2 := Aside0.mk hM2; have I2 := Aside0.mk hI2; have K2 := Aside0.mk hK2; have X2 := Aside0.mk (blk_ks (blk_drew X1.out) hK2 xm); have C2 := Aside0.mk (blk_ks (blk_drew C1.out) hK2 pm); have gc := (blk_cell C2.out 0).trans rfl; have g0 := (blk_cell X2.out 0).trans rfl; have g1 := (blk_cell X2.out 1).trans rfl; have g2 := (blk_cell X2.out 2).trans rfl; have g3 := (blk_cell X2.out 3).trans rfl; clear hM2 hI2 hK2))
            go_wp2
            go_roundg k2
            case measure => omega
            case rel =>
              have KE : KS WQ w2 (fun k => k = m) := ((KS.refl WQ (fun k => k = m)).drew).then_ K2.out (fun k h => .inl h)
              exact ⟨i + 1, l - min l n, L', congrArg (Value.int .i64) (by omega), rfl, by omega, by omega, by omega, I2, M2, ⟨below_ks B1.out KE (fun k h => by rw [h]; exact hm')⟩, C2⟩
          · have hk1 : (kind == 0) = false := by simpa using hk0
            have hk2 : decide (kind = 0) = false := by simpa using hk0
            go_wp2
            have xm : wr.heap.size ≠ m := by have := M.out.lt; omega
            have pm : pc ≠ m := by omega
            obtain ⟨WQ, hWQ⟩ : ∃ WQ, W.alloc (.cells #[.int .i64 kind, .string name, .string to_, .slice Ab n cb] 79) = WQ := ⟨_, rfl⟩
            have HWQ := Aside0.mk hWQ
            have KQ : Aside0 (KS W WQ (fun k => k = wr.heap.size)) := ⟨by rw [← hWQ]; exact (KS.refl W (fun k => k = wr.heap.size)).alloc _⟩
            have X1 : Aside0 (WQ.heap[wr.heap.size]? = some (.cells #[.int .i64 kind, .string name, .string to_, .slice Ab n cb] 79 (0, 0))) := ⟨by rw [← hWQ]; exact blk_alloc X.out _⟩
            rw [hWQ]
            have KW : Aside0 (Below wr.heap.size wr WQ) := ⟨below_ks BA.out KQ.out (fun k h => by rw [h]; omega)⟩
            have C1 : Aside0 (WQ.heap[pc]? = some (.cells #[.map (some m), .map none, .int .i64 (N : Nat), .int .i64 (N : Nat), .slice none 0 0] 84 (0, 0))) := ⟨blk_ks CA.out KQ.out pcx⟩
            have M1 : Aside0 (MapS WQ m L) := ⟨M.out.below KW.out⟩
            have B1 : Aside0 (Below w.heap.size w WQ) := ⟨below_step B.out KW.out⟩
            have HI1 : Aside0 (I i l L WQ) := ⟨hIb _ _ _ _ _ (fun _ => False) HI.out (KS.of_below KW.out _) (fun k h _ => h)⟩
            have b0 : WQ.drew.cell? ⟨wr.heap.size, 0, none⟩ = some (.int .i64 kind) := (blk_cell (blk_drew X1.out) 0).trans rfl
            have b1 : WQ.drew.cell? ⟨wr.heap.size, 1, none⟩ = some (.string name) := (blk_cell (blk_drew X1.out) 1).trans rfl
            have b2 : WQ.drew.cell? ⟨wr.heap.size, 2, none⟩ = some (.string to_) := (blk_cell (blk_drew X1.out) 2).trans rfl
            have b3 : WQ.drew.cell? ⟨wr.heap.size, 3, none⟩ = some (.slice Ab n cb) := (blk_cell (blk_drew X1.out) 3).trans rfl
            have CS : Aside0 (Calls Try.prog 48 #[.map (some m), .agg #[.int .i64 kind, .string name, .string to_, .slice Ab n cb]] WQ.drew fun e w' => e = .returned (.tuple #[]) ∧ ∃ L', MapS w' m L' ∧ I (i + 1) (l - 1) L' w' ∧ KS WQ.drew w' (fun k => k = m)) := ⟨by have h := HS.out i l L WQ.drew m kind name to_ (.slice Ab n cb) hd (by omega) hm' (hIb _ _ _ _ _ (fun _ => False) HI1.out (KS.refl WQ _).drew (fun k h _ => h)) (below_drew B1.out) (MapS_drew M1.out); simp only [cutV, unitsV, if_neg hk0] at h; exact h⟩
            have bc : WQ.drew.cell? ⟨pc, 0, none⟩ = some (.map (some m)) := (blk_cell (blk_drew C1.out) 0).trans rfl
            clear hWQ a0 a1 a2 a3 fx e0 e1 e2 e3
            go_region_held_law (fun w' => w'.cell? ⟨pc, 0, none⟩ = some (.map (some m)) ∧ w'.cell? ⟨wr.heap.size, 0, none⟩ = some (.int .i64 kind) ∧ w'.cell? ⟨wr.heap.size, 1, none⟩ = some (.string name) ∧ w'.cell? ⟨wr.heap.size, 2, none⟩ = some (.string to_) ∧ w'.cell? ⟨wr.heap.size, 3, none⟩ = some (.slice Ab n cb)) (first | exact ⟨bc, b0, b1, b2, b3⟩ | exact ⟨gc, g0, g1, g2, g3⟩) ((refine goes_ Try.func48 (by kernel_rfl) rfl #[.map (some m), .agg #[.int .i64 kind, .string name, .string to_, .slice Ab n cb]] (by rfl) rfl rfl (by (try simp only [List.map_toArray, List.map_cons, List.map_nil]); first | done | rfl) ?_; refine (CS.out).mono ?_; rintro e w2 ⟨rfl, L', hM2, hI2, hK2⟩; refine ⟨_, rfl, ?_⟩; have M2 := Aside0.mk hM2; have I2 := Aside0.mk hI2; have K2 := Aside0.mk hK2; have X2 := Aside0.mk (blk_ks (blk_drew X1.out) hK2 xm); have C2 := Aside0.mk (blk_ks (blk_drew C1.out) hK2 pm); have gc := (blk_cell C2.out 0).trans rfl; have g0 := (blk_cell X2.out 0).trans rfl; have g1 := (blk_cell X2.out 1).trans rfl; have g2 := (blk_cell X2.out 2).trans rfl; have g3 := (blk_cell X2.out 3).trans rfl; clear hM2 hI2 hK2))
            go_wp2
            go_roundg k2
            case measure => omega
            case rel =>
              have KE : KS WQ w2 (fun k => k = m) := ((KS.refl WQ (fun k => k = m)).drew).then_ K2.out (fun k h => .inl h)
              exact ⟨i + 1, l - 1, L', congrArg (Value.int .i64) (by omega), rfl, by omega, by omega, by omega, I2, M2, ⟨below_ks B1.out KE (fun k h => by rw [h]; exact hm')⟩, C2⟩
      · obtain rfl : i = A.length := by omega
        have q2 : decide ((A.length : Int) < (A.length : Int)) = false := decide_eq_false (by omega)
        have z0 := (blk_cell C0.out 0).trans rfl
        go_wp2_with (first
          | ((with_reducible refine gate_callee (f := 46) rfl ?_); refine goesL_ (some 76) rfl rfl Try.func46 (by kernel_rfl) rfl #[.map (some m)] rfl (by (try simp only [List.map_toArray, List.map_cons, List.map_nil]); first | done | rfl) ?_; (refine (mclone_calls _ m L M.out).mono ?_); rintro e w5 ⟨s5, rfl, hs5, hM5, hb5⟩; refine ⟨_, rfl, ?_⟩; have M5 := Aside0.mk hM5; have B5 := Aside0.mk hb5; have C5 := Aside0.mk (blk_below C0.out hb5); have f5 := blk_frozen C5.out 1; have d5 := (blk_cell C5.out 1).trans rfl; clear hM5 hb5))

        go_ret
        have K5 : KS w5 (w5.setCell ⟨pc, 1, none⟩ (.map (some s5))) (fun k => k = pc) := (KS.refl w5 (fun k => k = pc)).setCell (p := ⟨pc, 1, none⟩) (.inl rfl) _
        have BE : Below w.heap.size w (w5.setCell ⟨pc, 1, none⟩ (.map (some s5))) := below_ks (below_step B.out B5.out) K5 (fun k h => by rw [h]; omega)
        refine ⟨pc, rfl, ⟨m, s5, L, A.length, l, ⟨blk_put C5.out 1 _ rfl, (M.out.below B5.out).ks K5 (by omega), M5.out.ks K5 ?_, ?_, by omega, hm', ?_, own_nil _ _ _ _⟩, .inl rfl, ?_, BE⟩⟩
        · have h1 := blk_lt C0.out
          omega
        · have h1 := M.out.lt
          omega
        · have h1 := B.out.size
          omega
        · refine hIb _ _ _ _ _ _ (hIb _ _ _ _ _ (fun _ => False) HI.out (KS.of_below B5.out _) (fun k h _ => h)) K5 ?_
          rintro k h ⟨cs, f', hb⟩
          have h' : k = pc := h
          subst h'
          exact no_two C5.out hb (by decide)

end Go.Proofs.Ytlfckoeolcnniaa.Net
