/- The walk of NetAll: the state that both loops keep. -/
import Derived.Test.YtlfckoeolcnniaaNetK
import Derived.Test.YtlfckoeolcnniaaNetE
import Derived.Test.YtlfckoeolcnniaaNetF
import Derived.Test.YtlfckoeolcnniaaFrI
import Derived.Test.YtlfckoeolcnniaaWArr
namespace Go.Proofs.Ytlfckoeolcnniaa.Net
open Go.RowKit Go.Proofs.YtlfckoeolcnniaaW.PrintWords Go.Proofs.YtlfckoeolcnniaaW.PrintLast Go.Proofs.YtlfckoeolcnniaaW.PrintMore
set_option linter.unusedVariables false
set_option linter.unusedSimpArgs false
def InO (W : World) (v : Value) : Prop := ∃ A n c, v = .slice A n c ∧ n ≤ 9223372036854775807 ∧ (0 < n → ∃ a, A = some a ∧ ∀ i, i < n → ∃ kd k u, W.cell? (a.add (i * 3)) = some (.int .i64 kd) ∧ (Lit.int .i64 kd).wf = true ∧ W.cell? ⟨(a.add (i * 3)).block, (a.add (i * 3)).off + 1, none⟩ = some (.int .i64 k) ∧ (Lit.int .i64 k).wf = true ∧ W.cell? ⟨(a.add (i * 3)).block, (a.add (i * 3)).off + 2, none⟩ = some u ∧ InB W u)
/-- the bytes of what waits -/
def small (x : Gr) : Prop := bytes x.2.2 ∧ x.2.2.length ≤ 20
/-- what both loops keep: the network's list and the law's own, the same keys -/
structure Both (w0 w : World) (p : Nat) (v l : Value) (L M : List Gr) : Prop where
  net : NetHas w w0.heap.size p v L
  own : LHas w w0.heap.size l M
  key : L.map keyOf = M.map keyOf
  len : M.length ≤ 256
  bel : Below w0.heap.size w0 w
  bys : ∀ x ∈ M, small x
theorem LHas.cap {w : World} {base : Nat} {A : Option Addr} {n c : Nat} {M : List Gr} (h : LHas w base (.slice A n c) M) : n ≤ c := by
  obtain ⟨A', c', e', hc'⟩ := Kd.Q_slice h.row
  injection e' with _ e2 e3
  omega
theorem Both.llen {w0 w : World} {p : Nat} {v l : Value} {L M : List Gr} (h : Both w0 w p v l L M) : L.length = M.length := by have := congrArg List.length h.key; simpa using this
theorem Both.begin {w0 w : World} {p : Nat} (h : NetHas w w0.heap.size p (.slice none 0 0) []) (hb : Below w0.heap.size w0 w) : Both w0 w p (.slice none 0 0) (.slice none 0 0) [] [] := ⟨h, LHas.nil _ _, rfl, by simp, hb, by simp⟩
theorem Both.below {w0 w w' : World} {p : Nat} {v l : Value} {L M : List Gr} (h : Both w0 w p v l L M) (hb : Below w.heap.size w w') : Both w0 w' p v l L M := ⟨h.net.below hb, h.own.below hb, h.key, h.len, below_step h.bel hb, h.bys⟩
theorem net_far35 {w w' : World} {base p : Nat} {v : Value} {L : List Gr} (h : NetHas w base p v L) {S : Nat → Prop} (hk : KS w w' S) (hS : ∀ k, S k → ∃ cs, w.heap[k]? = some (.cells cs 35 (0, 0))) : NetHas w' base p v L :=
  ⟨h.le, blk_ks h.blk hk (fun hs => by obtain ⟨cs, h1⟩ := hS p hs; exact blk_ne h.blk h1 (by decide) rfl),
   own_kept h.row hk (fun k hv hs => by obtain ⟨_, cs, h1⟩ := own_blk h.row hv; obtain ⟨cs', h2⟩ := hS k hs; exact blk_ne h1 h2 (by decide) rfl),
   fun x hx => hasB_far (h.els x hx) hk (fun k hs => by obtain ⟨cs, h1⟩ := hS k hs; exact ⟨cs, 35, h1, by decide⟩)⟩
/-- the blocks that a call of net writes -/
theorem net_S {w : World} {base p : Nat} {v : Value} {L : List Gr} (h : NetHas w base p v L) : ∀ k, (k = p ∨ v.ownBlock = some k) → ∃ cs t, w.heap[k]? = some (.cells cs t (0, 0)) ∧ t ≠ 5 ∧ t ≠ 35 := fun k hk => by
  rcases hk with rfl | hk
  · exact ⟨_, 59, h.blk, by decide, by decide⟩
  · obtain ⟨_, cs, h1⟩ := own_blk h.row hk
    exact ⟨_, 61, h1, by decide, by decide⟩
theorem LHas.len {w : World} {base : Nat} {l : Value} {M : List Gr} (h : LHas w base l M) : ∃ A c, l = .slice A M.length c ∧ (0 < M.length → ∃ g o, A = some ⟨g, o, none⟩) := by
  by_cases c : 0 < M.length
  · obtain ⟨g, o, cap, e, _⟩ := Kd.Q_form h.row (by rw [List.length_map]; exact c)
    rw [List.length_map] at e
    exact ⟨_, _, e, fun _ => ⟨g, o, rfl⟩⟩
  · obtain rfl : M = [] := List.eq_nil_of_length_eq_zero (by omega)
    obtain ⟨A, c, e⟩ := Kd.Q_slice h.row
    exact ⟨A, c, by simpa using e, fun h => by simp at h⟩
theorem keyed_drop {L M : List Gr} (h : L.map keyOf = M.map keyOf) (n : Nat) : (L.drop n).map keyOf = (M.drop n).map keyOf := by rw [List.map_drop, h, List.map_drop]
/-- what stands behind a send: the network's part -/
structure Sent (w0 w3 : World) (p : Nat) (v3 l : Value) (L' M : List Gr) (d : Int) (bs : List Int) : Prop where
  net : NetHas w3 w0.heap.size p v3 L'
  own : LHas w3 w0.heap.size l M
  key : L'.map keyOf = ((M.map keyOf) ++ [(d, bs)]).drop (M.length + 1 - 256)
  len : M.length ≤ 256
  bel : Below w0.heap.size w0 w3
  bys : ∀ x ∈ M, small x
theorem Both.sent {w0 w w2 w3 : World} {p : Nat} {v l v3 vc : Value} {L M : List Gr} {d : Int} {bs : List Int} (h : Both w0 w p v l L M) (h2 : Below w.heap.size w w2)
    (hN : NetHas w3 w0.heap.size p v3 ((L ++ [(d, vc, bs)]).drop (L.length + 1 - 256))) (hK : KS w2 w3 (fun i => i = p ∨ v.ownBlock = some i)) : Sent w0 w3 p v3 l ((L ++ [(d, vc, bs)]).drop (L.length + 1 - 256)) M d bs := by
  have h' := h.below h2
  refine ⟨hN, h'.own.far hK (net_S h'.net), ?_, h.len, below_ks h'.bel hK h'.net.S, h.bys⟩
  rw [List.map_drop, List.map_append, h.key, h.llen]
  rfl
/-- what stands behind an operation: the law's own list may be one too long -/
structure Grown (w0 w : World) (p : Nat) (v l : Value) (L M : List Gr) : Prop where
  net : NetHas w w0.heap.size p v L
  own : LHas w w0.heap.size l M
  key : L.map keyOf = (M.map keyOf).drop (M.length - 256)
  len : M.length ≤ 257
  bel : Below w0.heap.size w0 w
  bys : ∀ y ∈ M, small y
theorem Both.grown {w0 w : World} {p : Nat} {v l : Value} {L M : List Gr} (h : Both w0 w p v l L M) : Grown w0 w p v l L M := ⟨h.net, h.own, by rw [h.key, show M.length - 256 = 0 by have := h.len; omega, List.drop_zero], by have := h.len; omega, h.bel, h.bys⟩
theorem Grown.llen {w0 w : World} {p : Nat} {v l : Value} {L M : List Gr} (h : Grown w0 w p v l L M) : L.length = M.length - (M.length - 256) := by have := congrArg List.length h.key; simpa using this
theorem Sent.grown {w0 w3 w4 w5 : World} {p : Nat} {v l l5 vb : Value} {L' M : List Gr} {d : Int} {bs : List Int} (h : Sent w0 w3 p v l L' M d bs) (h4 : Below w3.heap.size w3 w4) (hg : w4.grownBy w5 l.ownBlock)
    (hO : LHas w5 w0.heap.size l5 (M ++ [(d, vb, bs)])) (hB : Below w0.heap.size w0 w5) (hs : small (d, vb, bs)) : Grown w0 w5 p v l5 L' (M ++ [(d, vb, bs)]) := by
  refine ⟨?_, hO, by rw [h.key, List.map_append, List.length_append]; rfl, by have := h.len; simp; omega, hB, ?_⟩
  · exact net_far35 h.net (KS.of_grown hg (KS.of_below h4 (fun k => l.ownBlock = some k)) (fun k hk => .inl hk)) (fun k hk => (h.own.typed k hk).2)
  · intro y hy
    rcases List.mem_append.1 hy with hy | hy
    · exact h.bys y hy
    · obtain rfl := List.mem_singleton.1 hy
      exact hs
theorem Grown.keep {w0 w5 : World} {p : Nat} {v l : Value} {L M : List Gr} (h : Grown w0 w5 p v l L M) (hl : M.length ≤ 256) : Both w0 w5 p v l L M :=
  ⟨h.net, h.own, by rw [h.key, show M.length - 256 = 0 by omega, List.drop_zero], hl, h.bel, h.bys⟩
theorem Grown.cut {w0 w5 : World} {p : Nat} {v : Value} {A : Option Addr} {n c : Nat} {L M : List Gr} (h : Grown w0 w5 p v (.slice A n c) L M) (hl : M.length = 257) :
    Both w0 w5 p v (.slice (if c = 1 then A else A.map (·.add 2)) (n - 1) (c - 1)) L (M.drop 1) :=
  ⟨h.net, h.own.drop1 (by omega), by rw [h.key, show M.length - 256 = 1 by omega, List.map_drop], by simp; omega, h.bel, fun y hy => h.bys y (List.mem_of_mem_drop hy)⟩
theorem Grown.cut1 {w0 w5 : World} {p : Nat} {v : Value} {g o c n : Nat} {L M : List Gr} (h : Grown w0 w5 p v (.slice (some ⟨g, o, none⟩) n c) L M) (hl : M.length = 257) (hc : 1 < c) :
    Both w0 w5 p v (.slice (some ⟨g, o + 2, none⟩) (n - 1) (c - 1)) L (M.drop 1) := by
  have := h.cut hl
  rw [if_neg (by omega)] at this
  exact this
theorem Grown.below {w0 w w' : World} {p : Nat} {v l : Value} {L M : List Gr} (h : Grown w0 w p v l L M) (hb : Below w.heap.size w w') : Grown w0 w' p v l L M := ⟨h.net.below hb, h.own.below hb, h.key, h.len, below_step h.bel hb, h.bys⟩
/-- the append of one literal datagram whose bytes were just made -/
theorem Sent.append {w0 w3 w4 : World} {p : Nat} {v l vb : Value} {L' M : List Gr} {d : Int} {bs : List Int} (h : Sent w0 w3 p v l L' M d bs) (h4 : Below w3.heap.size w3 w4)
    (hb : HasB w4 w0.heap.size vb bs) (hs : small (d, vb, bs)) (ty : TypeId) (k : Nat) (hk : w4.heap.size = k) :
    ∃ A c w5, (Builtin.append_ #[33, 33] ty #[l, .slice (some ⟨k, 0, none⟩) 1 1]).run Try.prog (w4.alloc (.cells #[.int .i64 d, vb] 35)) = .ok (.slice A (M.length + 1) c) w5 ∧ Grown w0 w5 p v (.slice A (M.length + 1) c) L' (M ++ [(d, vb, bs)]) ∧ (∃ g o, A = some ⟨g, o, none⟩) ∧ M.length + 1 ≤ c ∧ w4.grownBy w5 l.ownBlock := by
  subst hk
  have B4 : Below w0.heap.size w0 w4 := below_step h.bel h4
  obtain ⟨v1, w5, hr, hL, hbl, hg⟩ := LHas.append (w0 := w0) (h.own.below h4) d hb (own_one hb) B4 B4.size (by have := h.len; omega) ty
  obtain ⟨A, c, e, hA⟩ := hL.len
  have hc : (M ++ [(d, vb, bs)]).length ≤ c := by
    obtain ⟨A', c', e', hc'⟩ := Kd.Q_slice hL.row
    rw [e] at e'
    injection e' with _ _ e3
    rw [List.length_map] at hc'
    omega
  have el : (M ++ [(d, vb, bs)]).length = M.length + 1 := by simp
  rw [el] at e hA hc
  subst e
  exact ⟨A, c, w5, hr, h.grown h4 hg hL hbl hs, hA (by omega), hc, hg⟩
theorem small_one (d : Int) (v : Value) (m : Int) : small (d, v, [m % 256]) := ⟨fun x hx => by simp only [List.mem_singleton] at hx; subst hx; omega, by simp⟩
/-- the fill loop's send -/
theorem Both.send1 {w0 w : World} {p : Nat} {v l : Value} {L M : List Gr} (H : Both w0 w p v l L M) (m : Int) :
    Calls Try.prog 14 #[.pointer (some ⟨p, 0, none⟩), .int .i64 m, .slice (some ⟨w.heap.size, 0, none⟩) 1 1] (w.alloc (.cells #[.int .u8 (m % 256)] 5)) fun e w3 => e = .returned (.tuple #[]) ∧ ∃ v3 L' x g o c w5,
      (Builtin.append_ #[33, 33] 33 #[l, .slice (some ⟨w3.heap.size + 1, 0, none⟩) 1 1]).run Try.prog ((w3.alloc (.cells #[.int .u8 (m % 256)] 5)).alloc (.cells #[.int .i64 m, .slice (some ⟨w3.heap.size, 0, none⟩) 1 1] 35)) = .ok (.slice (some ⟨g, o, none⟩) (M.length + 1) c) w5 ∧
      M.length + 1 ≤ c ∧ Aside0 (Grown w0 w5 p v3 (.slice (some ⟨g, o, none⟩) (M.length + 1) c) L' (M ++ [x])) := by
  have h256 := H.len
  have hll := H.llen
  refine (send_calls _ w0.heap.size p v _ L [m % 256] m (H.net.alloc _) (Nat.le_trans H.bel.size (by simp)) (by omega) (RdB.of_has (hasB_one w (m % 256) 0 (Nat.zero_le _))) (by simp)).mono ?_
  rintro e w3 ⟨rfl, v3, vc, hN, hc, hK, _⟩
  have hS := Both.sent H (below_alloc (Below.refl _ _) _) hN hK
  obtain ⟨A5, c5, w5, hr5, hG, ⟨g, o, hA⟩, hc5, _⟩ := Sent.append (w4 := w3.alloc (.cells #[.int .u8 (m % 256)] 5)) hS (below_alloc (Below.refl _ _) _) (hasB_one w3 (m % 256) w0.heap.size hS.bel.size) (small_one _ _ _) 33 (w3.heap.size + 1) (by simp)
  subst hA
  exact ⟨rfl, v3, _, _, g, o, c5, w5, hr5, hc5, ⟨hG⟩⟩
theorem run_append_zero (w : World) (ty : TypeId) (B A : Option Addr) (n cap c : Nat) (hn : n ≤ cap) : (Builtin.append_ #[33, 33] ty #[.slice B n cap, .slice A 0 c]).run Try.prog w = .ok (.slice B n cap) w := by
  obtain ⟨i0, hi, hz0, hz1, hz2⟩ := info_parts info35
  have hload : ∀ a : Addr, (loadCells a 0).run Try.prog w = .ok #[] w := fun a => by simpa using run_loadCells (P := Try.prog) (w := w) a 0 (fun _ => undef) (fun j hj => absurd hj (Nat.not_lt_zero _))
  cases A <;> cases B <;> simp [Builtin.append_, hload, run_underlying Try.underlying33, sizeOf, typeInfo, hi, Builtin.lenOf, Builtin.firstCells, hn, storeCells]
theorem LHas.grown {w w1 : World} {base : Nat} {l v : Value} {M L : List Gr} (h : LHas w base l M) (hv : LHas w base v L) (hg : w.grownBy w1 v.ownBlock) (hne : ∀ k, l.ownBlock = some k → some k ≠ v.ownBlock) : LHas w1 base l M := by
  have hk : KS w w1 (fun k => v.ownBlock = some k) := KS.of_grown hg (KS.refl w _) (fun k hk => .inl hk)
  have ht := Kd.Q_tight rfl h.row
  refine ⟨Kd.Q_mono (Kd.Q_kept ht hk.k (fun k hk hs => hne k hk.symm hs.symm)) (fun k hk => Kd.Q_base h.row k hk.symm), fun x hx => hasB_far (h.els x hx) hk (fun k hs => ?_)⟩
  obtain ⟨cs, h1⟩ := (hv.typed k hs).2
  exact ⟨cs, 35, h1, by decide⟩
theorem LHas.append_row {w : World} {base : Nat} {v v2 : Value} {L L2 : List Gr} (h : LHas w base v L) (h2 : LHas w base v2 L2) (hb : base ≤ w.heap.size) (hl : L.length + L2.length ≤ 2000) (ty : TypeId) :
    ∃ v1 w1, (Builtin.append_ #[33, 33] ty #[v, v2]).run Try.prog w = .ok v1 w1 ∧ LHas w1 base v1 (L ++ L2) ∧ w.grownBy w1 v.ownBlock ∧ (v1.ownBlock = v.ownBlock ∨ ∃ b, v1.ownBlock = some b ∧ w.heap.size ≤ b) := by
  obtain ⟨A, c, e⟩ := Kd.Q_slice h.row
  obtain ⟨A2, c2, e2⟩ := Kd.Q_slice h2.row
  rw [List.length_map] at e e2
  by_cases c0 : 0 < L2.length
  · obtain ⟨h0, in1, o1, r1⟩ := h.row
    obtain ⟨h0', in2, o2, r2⟩ := h2.row
    rw [List.length_map] at o1 o2
    rw [e2.1] at o2
    obtain ⟨ad, rfl, hcells⟩ := q_cells o2 c0
    obtain ⟨i0, hi, hz0, hz1, hz2⟩ := info_parts info35
    have l2 : in2.length = L2.length * 2 := by have := r2.1; rw [List.length_map] at this; exact this
    have one2 : ∀ u ∈ in2, u.oneCell' = true := Kd.reps_one r2 (by decide) (fun p c h => h.2.2)
    obtain ⟨v1, w1, hr, hq, hg, hat⟩ := q_append (P := Try.prog) w base 33 ty 35 i0 _ 2 32 Try.underlying33 hi hz0 hz1 hz2 rfl (by decide) v L.length in1 o1 ad L2.length c2 in2 l2 hcells one2 c0 (by unfold maxLen; omega) (by omega) hb
    refine ⟨v1, w1, by rw [e2.1]; exact hr, ⟨⟨fun k hk => ?_, in1 ++ in2, by rw [List.length_map, List.length_append]; exact hq, ?_⟩, fun x hx => ?_⟩, hg, hat⟩
    · exact (q_typed hq k hk).1
    · rw [List.map_append]
      exact Kd.reps_append (Reps.imp_ r1 (fun _ _ h => h)) (Reps.imp_ r2 (fun _ _ h => h))
    · have hk : KS w w1 (fun k => v.ownBlock = some k) := KS.of_grown hg (KS.refl w _) (fun k hk => .inl hk)
      have far : ∀ {u : Value} {cs : List Int}, HasB w base u cs → HasB w1 base u cs := fun {u cs} hu => hasB_far hu hk (fun k hs => by
        obtain ⟨cs, h1⟩ := (h.typed k hs).2
        exact ⟨cs, 35, h1, by decide⟩)
      rcases List.mem_append.1 hx with hx | hx
      · exact far (h.els x hx)
      · exact far (h2.els x hx)
  · obtain rfl : L2 = [] := List.eq_nil_of_length_eq_zero (by omega)
    rw [List.append_nil]
    refine ⟨v, w, ?_, h, ⟨rfl, rfl, rfl, Nat.le_refl _, fun _ _ _ => rfl⟩, .inl rfl⟩
    rw [e.1, e2.1]
    exact run_append_zero w ty A A2 _ c _ e.2
/-- append(append(nil, l[:K]..), l[K+1:]..) -/
theorem LHas.remove {w : World} {base g o c K : Nat} {M : List Gr} (h : LHas w base (.slice (some ⟨g, o, none⟩) M.length c) M) (hb : base ≤ w.heap.size) (hK : K < M.length) (hl : M.length ≤ 1000) :
    ∃ m w1 l2 w2, (Builtin.append_ #[33, 33] 33 #[.slice none 0 0, .slice (some ⟨g, o, none⟩) K c]).run Try.prog w = .ok m w1 ∧
      (Builtin.append_ #[33, 33] 33 #[m, .slice (some (if c = K + 1 then ⟨g, o, none⟩ else ⟨g, o + (K + 1) * 2, none⟩)) (M.length - (K + 1)) (c - (K + 1))]).run Try.prog w1 = .ok l2 w2 ∧
      LHas w2 base l2 (M.eraseIdx K) ∧ Below w.heap.size w w2 ∧ Below w.heap.size w w1 := by
  have h1 : LHas w base (.slice (some ⟨g, o, none⟩) K c) (M.take K) := ⟨by rw [List.map_take]; exact Kd.Q_take h.row (by rw [List.length_map]; omega), fun x hx => h.els x (List.mem_of_mem_take hx)⟩
  have h2 : LHas w base (.slice (some (if c = K + 1 then ⟨g, o, none⟩ else ⟨g, o + (K + 1) * 2, none⟩)) (M.length - (K + 1)) (c - (K + 1))) (M.drop (K + 1)) := by
    refine ⟨?_, fun x hx => h.els x (List.mem_of_mem_drop hx)⟩
    have := Kd.Q_drop (k := K + 1) h.row (by rw [List.length_map]; omega)
    rw [List.map_drop]
    by_cases hc : c = K + 1
    · rw [if_pos hc] at this ⊢
      exact this
    · rw [if_neg hc] at this ⊢
      exact this
  obtain ⟨m, w1, r1, hm, hg1, ha1⟩ := (LHas.nil w base).append_row h1 hb (by simp; omega) 33
  rw [List.nil_append] at hm
  have B1 : Below w.heap.size w w1 := (KS.of_grown hg1 (KS.refl w (fun _ => False)) (fun k hk => by cases hk)).below (fun k hk => hk.elim) (Nat.le_refl _)
  have fresh : ∀ k, m.ownBlock = some k → w.heap.size ≤ k := fun k hk => by
    rcases ha1 with e | ⟨b, e, hle⟩
    · rw [e] at hk; cases hk
    · rw [e] at hk; injection hk with hk; omega
  obtain ⟨l2, w2, r2, hl2, hg2, ha2⟩ := hm.append_row (h2.below B1) (Nat.le_trans hb B1.size) (by simp; omega) 33
  refine ⟨m, w1, l2, w2, r1, r2, ?_, ?_, B1⟩
  · rw [List.eraseIdx_eq_take_drop_succ]
    exact hl2
  · exact (KS.of_grown hg2 (KS.of_below B1 (fun _ => False)) (fun k hk => .inr (fresh k hk))).below (fun k hk => hk.elim) (Nat.le_refl _)
theorem map_erase {α β : Type} (f : α → β) : ∀ (l : List α) (k : Nat), (l.eraseIdx k).map f = (l.map f).eraseIdx k
  | [], k => by simp
  | a :: r, 0 => by simp
  | a :: r, k + 1 => by simp [map_erase f r k]
/-- blocks of type 37 (the law's own 'o') stay -/
def Ops (w w' : World) : Prop := ∀ (b : Nat) (cs : Array Value), w.heap[b]? = some (.cells cs 37 (0, 0)) → w'.heap[b]? = some (.cells cs 37 (0, 0))
theorem Ops.below {w w1 w2 : World} (h : Ops w w1) (hb : Below w1.heap.size w1 w2) : Ops w w2 := fun b cs hc => blk_below (h b cs hc) hb
theorem Ops.cell {w w' : World} (h : Ops w w') {b : Nat} {cs : Array Value} (hc : w.heap[b]? = some (.cells cs 37 (0, 0))) (j : Nat) : w'.cell? ⟨b, j, none⟩ = cs[j]? := blk_cell (h b cs hc) j
theorem net_ops {w w3 : World} {base p : Nat} {v : Value} {L : List Gr} (h : NetHas w base p v L) (hK : KS w w3 (fun i => i = p ∨ v.ownBlock = some i)) : Ops w w3 := fun b cs hc => blk_ks hc hK (fun hs => by
  rcases hs with rfl | hs
  · exact blk_ne h.blk hc (by decide) rfl
  · obtain ⟨_, cs', h1⟩ := own_blk h.row hs
    exact blk_ne h1 hc (by decide) rfl)
theorem keys_at {w0 w : World} {p : Nat} {v l : Value} {L M : List Gr} (H : Both w0 w p v l L M) {K : Nat} {x : Gr} (hx : M[K]? = some x) : ∃ y, L[K]? = some y ∧ y.1 = x.1 ∧ y.2.2 = x.2.2 := by
  have := congrArg (fun l => l[K]?) H.key
  simp only [List.getElem?_map, hx, Option.map_some] at this
  obtain ⟨y, h1, h2⟩ := Option.map_eq_some_iff.1 this
  injection h2 with e1 e2
  exact ⟨y, h1, e1, e2⟩
/-- the two appends behind a take or a drop -/
theorem Both.removed {w0 w w3 : World} {p g o c K : Nat} {v v3 : Value} {L M : List Gr} (H : Both w0 w p v (.slice (some ⟨g, o, none⟩) M.length c) L M) (hK : K < M.length)
    (hN : NetHas w3 w0.heap.size p v3 (L.eraseIdx K)) (hS : KS w w3 (fun i => i = p ∨ v.ownBlock = some i)) :
    ∃ m w1 A2 c2 w2, (Builtin.append_ #[33, 33] 33 #[.slice none 0 0, .slice (some ⟨g, o, none⟩) K c]).run Try.prog w3 = .ok m w1 ∧
      (∀ ad n' c', ad = (if c = K + 1 then (⟨g, o, none⟩ : Addr) else ⟨g, o + (K + 1) * 2, none⟩) → n' = M.length - (K + 1) → c' = c - (K + 1) → (Builtin.append_ #[33, 33] 33 #[m, .slice (some ad) n' c']).run Try.prog w1 = .ok (.slice A2 (M.length - 1) c2) w2) ∧
      Aside0 (Grown w0 w2 p v3 (.slice A2 (M.length - 1) c2) (L.eraseIdx K) (M.eraseIdx K)) ∧ Aside0 (Ops w w3) ∧ Aside0 (Ops w w1) := by
  have h1 : LHas w3 w0.heap.size (.slice (some ⟨g, o, none⟩) M.length c) M := H.own.far hS (net_S H.net)
  have hO := net_ops H.net hS
  have b3 : Below w0.heap.size w0 w3 := below_ks H.bel hS H.net.S
  obtain ⟨m, w1, l2, w2, r1, r2, hL, B2, B1⟩ := h1.remove b3.size hK (by have := H.len; omega)
  obtain ⟨A2, c2, e, _⟩ := hL.len
  have el : (M.eraseIdx K).length = M.length - 1 := by rw [List.length_eraseIdx]; simp [hK]
  rw [el] at e
  subst e
  refine ⟨m, w1, A2, c2, w2, r1, fun ad n' c' had hn' hc' => by subst had hn' hc'; exact r2, ⟨⟨hN.below B2, hL, ?_, by rw [el]; have := H.len; omega, below_step b3 B2, fun y hy => H.bys y (List.mem_of_mem_eraseIdx hy)⟩⟩, ⟨hO⟩, ⟨hO.below B1⟩⟩
  rw [el, show M.length - 1 - 256 = 0 by have := H.len; omega, List.drop_zero, map_erase, map_erase, H.key]
theorem Both.drop {w0 w : World} {p g o c K : Nat} {v : Value} {L M : List Gr} (H : Both w0 w p v (.slice (some ⟨g, o, none⟩) M.length c) L M) (hK : K < M.length) :
    Calls Try.prog 18 #[.pointer (some ⟨p, 0, none⟩), .int .i64 (K : Int)] w fun e w3 => e = .returned (.bool true) ∧ ∃ v3 m w1 A2 c2 w2, (Builtin.append_ #[33, 33] 33 #[.slice none 0 0, .slice (some ⟨g, o, none⟩) K c]).run Try.prog w3 = .ok m w1 ∧
      (∀ ad n' c', ad = (if c = K + 1 then (⟨g, o, none⟩ : Addr) else ⟨g, o + (K + 1) * 2, none⟩) → n' = M.length - (K + 1) → c' = c - (K + 1) → (Builtin.append_ #[33, 33] 33 #[m, .slice (some ad) n' c']).run Try.prog w1 = .ok (.slice A2 (M.length - 1) c2) w2) ∧
      Aside0 (Grown w0 w2 p v3 (.slice A2 (M.length - 1) c2) (L.eraseIdx K) (M.eraseIdx K)) ∧ Aside0 (Ops w w3) ∧ Aside0 (Ops w w1) := by
  obtain ⟨y, hy, _, _⟩ := keys_at H (List.getElem?_eq_getElem hK)
  refine (drop_calls w w0.heap.size p v L K y H.net H.bel.size (by have := H.llen; have := H.len; omega) hy).mono ?_
  rintro e w3 ⟨rfl, v3, hN, hS, _⟩
  obtain ⟨m, w1, A2, c2, w2, h⟩ := H.removed hK hN hS
  exact ⟨rfl, v3, m, w1, A2, c2, w2, h⟩
theorem Both.take {w0 w : World} {p g o c K : Nat} {v : Value} {L M : List Gr} (H : Both w0 w p v (.slice (some ⟨g, o, none⟩) M.length c) L M) (hK : K < M.length) :
    Calls Try.prog 16 #[.pointer (some ⟨p, 0, none⟩), .int .i64 (K : Int)] w fun e w3 => ∃ (d : Int) (vb ux : Value) (str : ByteArray), e = .returned (.tuple #[.int .i64 d, vb, .bool true]) ∧ ∃ v3 m w1 A2 c2 w2, (Builtin.append_ #[33, 33] 33 #[.slice none 0 0, .slice (some ⟨g, o, none⟩) K c]).run Try.prog w3.drew = .ok m w1 ∧
      (∀ ad n' c', ad = (if c = K + 1 then (⟨g, o, none⟩ : Addr) else ⟨g, o + (K + 1) * 2, none⟩) → n' = M.length - (K + 1) → c' = c - (K + 1) → (Builtin.append_ #[33, 33] 33 #[m, .slice (some ad) n' c']).run Try.prog w1 = .ok (.slice A2 (M.length - 1) c2) w2) ∧
      Aside0 (Grown w0 w2 p v3 (.slice A2 (M.length - 1) c2) (L.eraseIdx K) (M.eraseIdx K)) ∧ Aside0 (Ops w w3.drew) ∧ Aside0 (Ops w w1) ∧
      Aside0 (∀ w', Below w3.heap.size w3 w' → (convert 27 9 vb).run Try.prog w' = .ok (.string str) w') ∧ Aside0 (∀ w', Below w3.heap.size w3 w' → (convert 27 9 ux).run Try.prog w' = .ok (.string str) w') ∧
      Aside0 (w3.cell? ⟨g, o + K * 2, none⟩ = some (.int .i64 d) ∧ w3.cell? ⟨g, o + K * 2 + 1, none⟩ = some ux) := by
  obtain ⟨x, hx⟩ : ∃ x, M[K]? = some x := ⟨_, List.getElem?_eq_getElem hK⟩
  obtain ⟨y, hy, e1, e2⟩ := keys_at H hx
  refine (take_calls w w0.heap.size p v L K y H.net H.bel.size (by have := H.llen; have := H.len; omega) hy (K : Int) rfl).mono ?_
  rintro e w3 ⟨rfl, v3, hN, hS, _, hC⟩
  obtain ⟨m, w1, A2, c2, w2, h1, h2, h3, h4, h5⟩ := H.removed hK (hN.below (below_drew (Below.refl _ _))) hS.drew
  have hx' := List.mem_of_getElem? hx
  have hl := H.own.far hS (net_S H.net)
  obtain ⟨g', o', c', e', k1, k2⟩ := hl.at_ hx
  injection e' with e1' _ _
  injection e1' with e1'
  injection e1' with eg eo _
  subst eg eo
  refine ⟨y.1, y.2.1, x.2.1, bstr x.2.2, rfl, v3, m, w1, A2, c2, w2, h1, h2, h3, h4, h5, ⟨fun w' hb => ?_⟩, ⟨fun w' hb => ?_⟩, ⟨by rw [e1]; exact k1, k2⟩⟩
  · rw [← e2]
    exact run_backR _ _ _ ((RdB.of_has hC).below hb) (by rw [e2]; exact (H.bys x hx').1)
  · exact run_backR _ _ _ ((RdB.of_has (hl.els x hx')).below hb) (H.bys x hx').1
theorem Sent.grown2 {w0 w3 w5 : World} {p : Nat} {v l l5 vb : Value} {L' M : List Gr} {d : Int} {bs : List Int} (h : Sent w0 w3 p v l L' M d bs) (h5 : Below w3.heap.size w3 w5)
    (hO : LHas w5 w0.heap.size l5 (M ++ [(d, vb, bs)])) (hs : small (d, vb, bs)) : Grown w0 w5 p v l5 L' (M ++ [(d, vb, bs)]) := by
  refine ⟨h.net.below h5, hO, by rw [h.key, List.map_append, List.length_append]; rfl, by have := h.len; simp; omega, below_step h.bel h5, ?_⟩
  intro y hy
  rcases List.mem_append.1 hy with hy | hy
  · exact h.bys y hy
  · obtain rfl := List.mem_singleton.1 hy
    exact hs
theorem net_undrew {w w' : World} (h : Below w.drew.heap.size w.drew w') : Below w.heap.size w w' := ⟨h.os, h.tape, h.output, h.size, h.block⟩
theorem three_kept {w w' : World} {a b c : Addr} {x y z : Value} (hb : Below w.heap.size w w') (h1 : w.cell? a = some x) (h2 : w.cell? b = some y) (h3 : w.cell? c = some z) : w'.cell? a = some x ∧ w'.cell? b = some y ∧ w'.cell? c = some z :=
  ⟨(hb.cell (World.block_lt_of_cell? _ _ h1)).trans h1, (hb.cell (World.block_lt_of_cell? _ _ h2)).trans h2, (hb.cell (World.block_lt_of_cell? _ _ h3)).trans h3⟩
theorem app_exec {o : Oper} {a : Act} {W w1 : World} {v vs vx : Value} {sx x : Operand} {t : TypeId} (hop : o.op = .call { callee := .builtin .append, args := #[sx, x], argTypes := #[t, t] }) (hs : a.eval sx = vs) (hx : a.eval x = vx) (hrun : (Builtin.append_ #[t, t] o.type #[vs, vx]).run Try.prog W = .ok v w1) : (execOp a.eval o).run Try.prog W = .ok (.value v) w1 := by
  unfold execOp
  simp only [hop, resolve, invoke, builtin, Sem.run_bind, Sem.run_pure, Result.andThen_ok, List.map_toArray, List.map_cons, List.map_nil, hs, hx, hrun]
theorem LHas.lit {w : World} {base : Nat} {vb : Value} {bs : List Int} (d : Int) (hb : HasB w base vb bs) (hbase : base ≤ w.heap.size) : LHas (w.alloc (.cells #[.int .i64 d, vb] 35)) base (.slice (some ⟨w.heap.size, 0, none⟩) 1 1) [(d, vb, bs)] := by
  have ho := World.ownsRow_lit (base := base) (e := 35) (size := 2) w #[.int .i64 d, vb] 1 hbase (by decide) rfl
  refine ⟨⟨fun k hk => by simp [Value.ownBlock] at hk; omega, [.int .i64 d, vb], q_of_own ho, Reps.snoc (Reps.none _ 2) ⟨rfl, rfl, ?_⟩ rfl⟩, fun x hx => ?_⟩
  · intro u hu
    simp at hu
    rcases hu with rfl | rfl
    · rfl
    · exact own_one hb
  · obtain rfl := List.mem_singleton.1 hx
    exact own_below hb (below_alloc (Below.refl _ _) _)
theorem fresh_below {w w1 w2 : World} {v : Value} (hg : w1.grownBy w2 v.ownBlock) (B : Below w.heap.size w w1) (hf : ∀ k, v.ownBlock = some k → w.heap.size ≤ k) : Below w.heap.size w w2 := (KS.of_grown hg (KS.of_below B (fun _ => False)) (fun k hk => .inr (hf k hk))).below (fun k hk => hk.elim) (Nat.le_refl _)
/-- append(nil, l..) -/
theorem LHas.copy {w : World} {base : Nat} {v : Value} {L : List Gr} (h : LHas w base v L) (hb : base ≤ w.heap.size) (hl : L.length ≤ 2000) :
    ∃ v1 w1, (Builtin.append_ #[33, 33] 33 #[.slice none 0 0, v]).run Try.prog w = .ok v1 w1 ∧ LHas w1 base v1 L ∧ Below w.heap.size w w1 ∧ ∀ k, v1.ownBlock = some k → w.heap.size ≤ k := by
  obtain ⟨v1, w1, r1, hL1, hg1, ha1⟩ := (LHas.nil w base).append_row h hb (by simp; omega) 33
  rw [List.nil_append] at hL1
  refine ⟨v1, w1, r1, hL1, fresh_below hg1 (Below.refl _ _) (fun k hk => by cases hk), fun k hk => ?_⟩
  rcases ha1 with e | ⟨b, e, hle⟩
  · rw [e] at hk; cases hk
  · rw [e] at hk; injection hk with hk; omega
theorem ops_below {w w1 : World} (hb : Below w.heap.size w w1) : Ops w w1 := fun b cs hc => blk_below hc hb
/-- append(append(nil, l..), l[K]): both orders -/
theorem Sent.twice {w0 w : World} {p g o c : Nat} {v ux : Value} {L' M : List Gr} {d : Int} {bs : List Int} (h : Sent w0 w p v (.slice (some ⟨g, o, none⟩) M.length c) L' M d bs) (hx : (d, ux, bs) ∈ M) :
    (∃ v1 w1 g2 o2 c2 w2, (Builtin.append_ #[33, 33] 33 #[.slice none 0 0, .slice (some ⟨g, o, none⟩) M.length c]).run Try.prog w = .ok v1 w1 ∧
      (Builtin.append_ #[33, 33] 33 #[v1, .slice (some ⟨w1.heap.size, 0, none⟩) 1 1]).run Try.prog (w1.alloc (.cells #[.int .i64 d, ux] 35)) = .ok (.slice (some ⟨g2, o2, none⟩) (M.length + 1) c2) w2 ∧ M.length + 1 ≤ c2 ∧
      Aside0 (Grown w0 w2 p v (.slice (some ⟨g2, o2, none⟩) (M.length + 1) c2) L' (M ++ [(d, ux, bs)])) ∧ Aside0 (Below w.heap.size w w1) ∧ Aside0 (Below w.heap.size w w2)) ∧
    (∃ v1 w1 g2 o2 c2 w2, (Builtin.append_ #[33, 33] 33 #[.slice none 0 0, .slice (some ⟨g, o, none⟩) M.length c]).run Try.prog (w.alloc (.cells #[.int .i64 d, ux] 35)) = .ok v1 w1 ∧
      (Builtin.append_ #[33, 33] 33 #[v1, .slice (some ⟨w.heap.size, 0, none⟩) 1 1]).run Try.prog w1 = .ok (.slice (some ⟨g2, o2, none⟩) (M.length + 1) c2) w2 ∧ M.length + 1 ≤ c2 ∧
      Aside0 (Grown w0 w2 p v (.slice (some ⟨g2, o2, none⟩) (M.length + 1) c2) L' (M ++ [(d, ux, bs)])) ∧ Aside0 (Below w.heap.size w w1) ∧ Aside0 (Below w.heap.size w w2)) := by
  have hs : small (d, ux, bs) := h.bys _ hx
  have hm : M.length ≤ 256 := h.len
  have el : (M ++ [(d, ux, bs)]).length = M.length + 1 := by simp
  constructor
  · obtain ⟨v1, w1, r1, hL1, B1, f1⟩ := h.own.copy h.bel.size (by omega)
    have hb1 := (h.own.below B1).els _ hx
    have hlit := LHas.lit d hb1 (Nat.le_trans h.bel.size B1.size)
    have B1' := below_step B1 (below_alloc (Below.refl _ _) (.cells #[.int .i64 d, ux] 35))
    obtain ⟨v2, w2, r2, hL2, hg2, _⟩ := (hL1.below (below_alloc (Below.refl _ _) _)).append_row hlit (Nat.le_trans h.bel.size B1'.size) (by simp; omega) 33
    have B2 := fresh_below hg2 B1' f1
    obtain ⟨A2, c2, e2', hA2⟩ := hL2.len
    rw [el] at e2' hA2
    obtain ⟨g2, o2, rfl⟩ := hA2 (by omega)
    subst e2'
    exact ⟨v1, w1, g2, o2, c2, w2, r1, r2, hL2.cap, ⟨h.grown2 B2 hL2 hs⟩, ⟨B1⟩, ⟨B2⟩⟩
  · have hb0 := h.own.els _ hx
    have hlit := LHas.lit d hb0 h.bel.size
    have B0 := below_alloc (Below.refl w.heap.size w) (.cells #[.int .i64 d, ux] 35)
    have s0 : w0.heap.size ≤ (w.alloc (.cells #[.int .i64 d, ux] 35)).heap.size := Nat.le_trans h.bel.size B0.size
    obtain ⟨v1, w1, r1, hL1, B1, f1⟩ := (h.own.below B0).copy s0 (by omega)
    have B1' := below_step B0 B1
    obtain ⟨v2, w2, r2, hL2, hg2, _⟩ := hL1.append_row (hlit.below B1) (Nat.le_trans s0 B1.size) (by simp; omega) 33
    have B2 := fresh_below hg2 B1' (fun k hk => Nat.le_trans B0.size (f1 k hk))
    obtain ⟨A2, c2, e2', hA2⟩ := hL2.len
    rw [el] at e2' hA2
    obtain ⟨g2, o2, rfl⟩ := hA2 (by omega)
    subst e2'
    exact ⟨v1, w1, g2, o2, c2, w2, r1, r2, hL2.cap, ⟨h.grown2 B2 hL2 hs⟩, ⟨B1'⟩, ⟨B2⟩⟩
theorem Both.double {w0 w : World} {p g o c K : Nat} {v : Value} {L M : List Gr} (H : Both w0 w p v (.slice (some ⟨g, o, none⟩) M.length c) L M) (hK : K < M.length) :
    Calls Try.prog 19 #[.pointer (some ⟨p, 0, none⟩), .int .i64 (K : Int)] w fun e w3 => e = .returned (.bool true) ∧ ∃ (d : Int) (ux : Value) (bs : List Int) (v3 : Value) (L' : List Gr),
      Aside0 (Sent w0 w3.drew p v3 (.slice (some ⟨g, o, none⟩) M.length c) L' M d bs) ∧ Aside0 ((d, ux, bs) ∈ M) ∧ Aside0 (Ops w w3) ∧ Aside0 (w3.cell? ⟨g, o + K * 2, none⟩ = some (.int .i64 d) ∧ w3.cell? ⟨g, o + K * 2 + 1, none⟩ = some ux) := by
  obtain ⟨x, hx⟩ : ∃ x, M[K]? = some x := ⟨_, List.getElem?_eq_getElem hK⟩
  obtain ⟨y, hy, e1, e2⟩ := keys_at H hx
  have hx' := List.mem_of_getElem? hx
  refine (double_calls w w0.heap.size p v L K y H.net H.bel.size (by have := H.llen; have := H.len; omega) hy (by rw [e2]; have := (H.bys x hx').2; omega)).mono ?_
  rintro e w3 ⟨rfl, ⟨v3, vc, hN, hS, _⟩⟩
  rw [e1, e2] at hN
  have hO : Ops w w3 := fun b cs hc => net_ops H.net hS b cs hc
  have hSe : Sent w0 w3.drew p v3 (.slice (some ⟨g, o, none⟩) M.length c) ((L ++ [(x.1, vc, x.2.2)]).drop (L.length + 1 - 256)) M x.1 x.2.2 := H.sent (Below.refl _ _) (hN.below (below_drew (Below.refl _ _))) hS.drew
  obtain ⟨g', o', c', e', k1, k2⟩ := hSe.own.at_ hx
  injection e' with e1' _ _
  injection e1' with e1'
  injection e1' with eg eo _
  subst eg eo
  exact ⟨rfl, x.1, x.2.1, x.2.2, v3, _, ⟨hSe⟩, ⟨hx'⟩, ⟨hO⟩, ⟨k1, k2⟩⟩
theorem own_lt {w : World} {base : Nat} {v : Value} {bs : List Int} (h : HasB w base v bs) {k : Nat} (hk : v.ownBlock = some k) : base ≤ k ∧ k < w.heap.size := by
  obtain ⟨h1, cs, h2⟩ := own_blk h hk
  exact ⟨h1, (Array.getElem?_eq_some_iff.1 h2).1⟩
/-- append([]byte(nil), b..) -/
theorem clone_run (w : World) (vb : Value) (bs : List Int) (hb : RdB w vb bs) (hl : bs.length ≤ 1000000) :
    ∃ v' w', (Builtin.append_ #[27, 27] 27 #[.slice none 0 0, vb]).run Try.prog w = .ok v' w' ∧ HasB w' w.heap.size v' bs ∧ Below w.heap.size w w' := by
  obtain ⟨i0, hi, hz0, hz1, hz2⟩ := info_parts info5
  by_cases c0 : 0 < bs.length
  · obtain ⟨B, cb, rfl, k1, k2⟩ := hb
    cases B with
    | none => rw [(k1 rfl).1] at c0; simp at c0
    | some b =>
      have hlb : (bs.map (Value.int .u8)).length = bs.length * 1 := by simp
      obtain ⟨v', w', hrun, r1, r2, _⟩ := run_append_own (P := Try.prog) w w.heap.size 27 27 5 i0 (.int .u8 0) 1 1 Try.underlying27 hi hz0 hz1 hz2 rfl (by decide) (.slice none 0 0) 0 [] (World.ownsRow_nil w _ 5 1) b bs.length cb (bs.map (Value.int .u8)) hlb (fun j u hu => k2 b rfl j u hu) (by intro u hu; obtain ⟨x, _, rfl⟩ := List.mem_map.1 hu; rfl) (by unfold maxLen; omega) (by omega) (Nat.le_refl _)
      exact ⟨v', w', hrun, by simpa using r1, (KS.of_grown r2 (KS.refl _ (fun _ => False)) (fun k hk => by cases hk)).below (fun k hk => hk.elim) (Nat.le_refl _)⟩
  · obtain rfl : bs = [] := List.eq_nil_of_length_eq_zero (by omega)
    obtain ⟨B, cb, rfl, k1, k2⟩ := hb
    have hload : ∀ a : Addr, (loadCells a 0).run Try.prog w = .ok #[] w := fun a => by simpa using run_loadCells (P := Try.prog) (w := w) a 0 (fun _ => undef) (fun j hj => absurd hj (Nat.not_lt_zero _))
    refine ⟨.slice none 0 0, w, ?_, World.ownsRow_nil _ _ _ _, Below.refl _ _⟩
    cases B <;> simp [Builtin.append_, hload, run_underlying Try.underlying27, sizeOf, typeInfo, hi, Builtin.lenOf, Builtin.firstCells, storeCells]
/-- b lies apart from what waits -/
structure Flip (w0 w : World) (p : Nat) (v l : Value) (L M : List Gr) (Ab : Option Addr) (n : Nat) : Prop where
  st : Grown w0 w p v l L M
  blk : 0 < n → ∃ gb cs, Ab = some ⟨gb, 0, none⟩ ∧ w0.heap.size ≤ gb ∧ w.heap[gb]? = some (.cells cs 5 (0, 0)) ∧ ∀ j, j < n → ∃ y, cs[j]? = some (.int .u8 y)
  away : ∀ gb, Ab = some ⟨gb, 0, none⟩ → (∀ x ∈ L, x.2.1.ownBlock ≠ some gb) ∧ (∀ x ∈ M, x.2.1.ownBlock ≠ some gb)
theorem Flip.at_ {w0 w : World} {p : Nat} {v l : Value} {L M : List Gr} {Ab : Option Addr} {n j : Nat} (h : Flip w0 w p v l L M Ab n) (hj : j < n) :
    ∃ gb y, Ab = some ⟨gb, 0, none⟩ ∧ w.cell? ⟨gb, j, none⟩ = some (.int .u8 y) ∧ w.frozen? ⟨gb, j, none⟩ = false := by
  obtain ⟨gb, cs, hA, _, hb, hc⟩ := h.blk (by omega)
  obtain ⟨y, hy⟩ := hc j hj
  exact ⟨gb, y, hA, (blk_cell hb j).trans hy, blk_frozen hb j⟩
theorem Flip.set {w0 w : World} {p gb : Nat} {v l : Value} {L M : List Gr} {n : Nat} (h : Flip w0 w p v l L M (some ⟨gb, 0, none⟩) n) {j : Nat} (hj : j < n) (z : Int) : Flip w0 (w.setCell ⟨gb, j, none⟩ (.int .u8 z)) p v l L M (some ⟨gb, 0, none⟩) n := by
  obtain ⟨gb', cs, hA, hle, hb, hc⟩ := h.blk (by omega)
  injection hA with hA
  injection hA with hA _ _
  subst hA
  obtain ⟨a1, a2⟩ := h.away gb rfl
  have hk : KS w (w.setCell ⟨gb, j, none⟩ (.int .u8 z)) (fun k => k = gb) := (KS.refl w (fun k => k = gb)).setCell (p := ⟨gb, j, none⟩) (.inl rfl) _
  have G := h.st
  refine ⟨⟨?_, ?_, G.key, G.len, G.bel.setCell (p := ⟨gb, j, none⟩) hle _, G.bys⟩, fun _ => ⟨gb, _, rfl, hle, blk_set hb j _, fun i hi => ?_⟩, fun gb' e => by injection e with e; injection e with e _ _; subst e; exact ⟨a1, a2⟩⟩
  · exact ⟨G.net.le, blk_ks G.net.blk hk (fun e => blk_ne G.net.blk hb (by decide) e),
      own_kept G.net.row hk (fun k hv e => by obtain ⟨_, cs', h1⟩ := own_blk G.net.row hv; exact blk_ne h1 hb (by decide) e),
      fun x hx => own_kept (G.net.els x hx) hk (fun k hv e => a1 x hx (by rw [hv, e]))⟩
  · have ht := Kd.Q_tight rfl G.own.row
    exact ⟨Kd.Q_mono (Kd.Q_kept ht hk.k (fun k hk' e => by obtain ⟨cs', h1⟩ := Kd.Q_typed G.own.row k hk'.symm; exact blk_ne h1 hb (by decide) e)) (fun k hk' => Kd.Q_base G.own.row k hk'.symm),
      fun x hx => own_kept (G.own.els x hx) hk (fun k hv e => a2 x hx (by rw [hv, e]))⟩
  · obtain ⟨y, hy⟩ := hc i hi
    by_cases e : j = i
    · subst e
      refine ⟨z, ?_⟩
      have := (Array.getElem?_eq_some_iff.1 hy).1
      simp [Array.getElem?_setIfInBounds, this]
    · exact ⟨y, by rw [Array.getElem?_setIfInBounds_ne e]; exact hy⟩
theorem Both.send0 {w0 w w1 : World} {p cb : Nat} {v l : Value} {Ab : Option Addr} {L M : List Gr} {bs : List Int} (H : Both w0 w p v l L M) (hv : HasB w1 w.heap.size (.slice Ab bs.length cb) bs) (B1 : Below w.heap.size w w1) (hbs : bytes bs) (hl : bs.length ≤ 20) (d : Int) :
    Calls Try.prog 14 #[.pointer (some ⟨p, 0, none⟩), .int .i64 d, .slice Ab bs.length cb] w1 fun e w3 => e = .returned (.tuple #[]) ∧ ∃ v3 L' A4 c4 w4 g5 o5 c5 w5,
      (Builtin.append_ #[27, 27] 27 #[.slice none 0 0, .slice Ab bs.length cb]).run Try.prog w3.drew = .ok (.slice A4 bs.length c4) w4 ∧
      (Builtin.append_ #[33, 33] 33 #[l, .slice (some ⟨w4.heap.size, 0, none⟩) 1 1]).run Try.prog (w4.alloc (.cells #[.int .i64 d, .slice A4 bs.length c4] 35)) = .ok (.slice (some ⟨g5, o5, none⟩) (M.length + 1) c5) w5 ∧ M.length + 1 ≤ c5 ∧
      Aside0 (Flip w0 w5 p v3 (.slice (some ⟨g5, o5, none⟩) (M.length + 1) c5) L' (M ++ [(d, .slice A4 bs.length c4, bs)]) Ab bs.length) ∧ Aside0 (Ops w1 w3) ∧ Aside0 (Ops w1 w4) ∧ Aside0 (Ops w1 w5) := by
  have H1 := H.below B1
  refine (send_calls w1 w0.heap.size p v _ L bs d H1.net H1.bel.size (by have := H.llen; have := H.len; omega) (RdB.of_has hv) (by omega)).mono ?_
  rintro e w3 ⟨rfl, v3, vc, hN, hc, hK, _⟩
  have hSe : Sent w0 w3.drew p v3 l ((L ++ [(d, vc, bs)]).drop (L.length + 1 - 256)) M d bs := H1.sent (Below.refl _ _) (hN.below (below_drew (Below.refl _ _))) hK.drew
  have hv3 : HasB w3 w.heap.size (.slice Ab bs.length cb) bs := hasB_far hv hK (fun k hk => by obtain ⟨cs, t, h1, h2, _⟩ := net_S H1.net k hk; exact ⟨cs, t, h1, h2⟩)
  have s13 : w1.heap.size ≤ w3.heap.size := hK.k.1
  obtain ⟨v4, w4, r4, h4, B4⟩ := clone_run w3.drew (.slice Ab bs.length cb) bs ((RdB.of_has hv3).below (below_drew (Below.refl _ _))) (by omega)
  obtain ⟨A4, c4, rfl⟩ := own_shape h4
  have hs : small (d, .slice A4 bs.length c4, bs) := ⟨hbs, hl⟩
  obtain ⟨A5, c5, w5, r5, hG, ⟨g5, o5, rfl⟩, hc5, hg⟩ := hSe.append B4 (own_mono h4 hSe.bel.size) hs 33 w4.heap.size rfl
  have hv5 : HasB w5 w.heap.size (.slice Ab bs.length cb) bs := by
    have h4' : HasB w4 w.heap.size (.slice Ab bs.length cb) bs := own_below hv3 (net_undrew B4)
    refine hasB_far h4' (KS.of_grown hg (KS.refl _ (fun k => l.ownBlock = some k)) (fun k hk => .inl hk)) (fun k hk => ?_)
    obtain ⟨cs, h1⟩ := ((hSe.own.below B4).typed k hk).2
    exact ⟨cs, 35, h1, by decide⟩
  refine ⟨rfl, v3, _, A4, c4, w4, g5, o5, c5, w5, r4, r5, hc5, ⟨⟨hG, fun h0 => ?_, fun gb hA => ?_⟩⟩, ⟨net_ops H1.net hK⟩, ⟨(net_ops H1.net hK).below (net_undrew B4)⟩, ⟨fun b cs hc0 => blk_grown ((net_ops H1.net hK).below (net_undrew B4) b cs hc0) hg (fun e => by obtain ⟨cs', h1⟩ := ((hSe.own.below B4).typed b e.symm).2; exact blk_ne h1 ((net_ops H1.net hK).below (net_undrew B4) b cs hc0) (by decide) rfl)⟩⟩
  · rcases hv5.2 with ⟨_, h0'⟩ | ⟨g, cap, cur, e, hg', hh, _, _, _, ht⟩
    · omega
    · injection e with e1 _ _
      refine ⟨g, cur, e1, Nat.le_trans H.bel.size hg', hh, fun j hj => ⟨(bs[j]'hj), ?_⟩⟩
      have := congrArg (fun l => l[j]?) ht
      simp only [List.getElem?_take, List.getElem?_map, List.getElem?_eq_getElem hj, Option.map_some] at this
      rw [if_pos (by omega)] at this
      simpa using this
  · subst hA
    have hg1 := own_lt hv (k := gb) rfl
    have old : ∀ x : Gr, HasB w w0.heap.size x.2.1 x.2.2 → x.2.1.ownBlock ≠ some gb := fun x hx e => by have := (own_lt hx e).2; omega
    constructor
    · intro x hx e
      rcases List.mem_append.1 (List.mem_of_mem_drop hx) with hx | hx
      · exact old x (H.net.els x hx) e
      · obtain rfl := List.mem_singleton.1 hx
        have := (own_lt hc e).1
        omega
    · intro x hx e
      rcases List.mem_append.1 hx with hx | hx
      · exact old x (H.own.els x hx) e
      · obtain rfl := List.mem_singleton.1 hx
        have := (own_lt h4 e).1
        have s3 : w3.drew.heap.size = w3.heap.size := rfl
        omega
/-- the new list that Clear's branch makes -/
structure Filt (w0 wO w : World) (mv : Value) (M : List Gr) (k : Int) (j : Nat) : Prop where
  m : LHas w w0.heap.size mv (keepG k (M.take j))
  fresh : ∀ b, mv.ownBlock = some b → wO.heap.size ≤ b
  bel : Below wO.heap.size wO w
theorem Filt.start (w0 wO : World) (M : List Gr) (k : Int) : Filt w0 wO wO (.slice none 0 0) M k 0 := ⟨LHas.nil _ _, fun b hb => (by cases hb), Below.refl _ _⟩
theorem Filt.drewN {w0 wO w : World} {mv : Value} {M : List Gr} {k : Int} {j : Nat} (F : Filt w0 wO w mv M k j) (n : Nat) : Filt w0 wO (w.drewN n) mv M k j :=
  ⟨F.m.below (below_drewN (Below.refl _ _) n), F.fresh, below_drewN F.bel n⟩
theorem Filt.skip {w0 wO w : World} {mv : Value} {M : List Gr} {k : Int} {j : Nat} {x : Gr} (F : Filt w0 wO w mv M k j) (hx : M[j]? = some x) (e : x.1 = k) : Filt w0 wO w mv M k (j + 1) :=
  ⟨by rw [keep_succ hx, if_pos e, List.append_nil]; exact F.m, F.fresh, F.bel⟩
theorem keepG_le (k : Int) (L : List Gr) : (keepG k L).length ≤ L.length := List.length_filter_le _ _
theorem Filt.add {w0 wO w : World} {p : Nat} {v l mv : Value} {L M : List Gr} {k : Int} {j : Nat} {x : Gr} (F : Filt w0 wO w mv M k j) (H : Both w0 wO p v l L M) (hx : M[j]? = some x) (hne : x.1 ≠ k) :
    ∃ A c w1, (Builtin.append_ #[33, 33] 33 #[mv, .slice (some ⟨w.heap.size, 0, none⟩) 1 1]).run Try.prog (w.alloc (.cells #[.int .i64 x.1, x.2.1] 35)) = .ok (.slice A (keepG k (M.take (j + 1))).length c) w1 ∧ Aside0 (Filt w0 wO w1 (.slice A (keepG k (M.take (j + 1))).length c) M k (j + 1)) := by
  have hb : HasB w w0.heap.size x.2.1 x.2.2 := (H.own.below F.bel).els x (List.mem_of_getElem? hx)
  have s0 : w0.heap.size ≤ w.heap.size := Nat.le_trans H.bel.size F.bel.size
  have hlit := LHas.lit x.1 hb s0
  have B0 := below_alloc (Below.refl w.heap.size w) (.cells #[.int .i64 x.1, x.2.1] 35)
  have hl := keepG_le k (M.take j)
  rw [List.length_take] at hl
  obtain ⟨v1, w1, r1, hL, hg, hat⟩ := (F.m.below B0).append_row hlit (Nat.le_trans s0 B0.size) (by have := H.len; simp; omega) 33
  have e : keepG k (M.take j) ++ [(x.1, x.2.1, x.2.2)] = keepG k (M.take (j + 1)) := by rw [keep_succ hx, if_neg hne]
  rw [e] at hL
  obtain ⟨A, c, e', _⟩ := hL.len
  subst e'
  refine ⟨A, c, w1, r1, ⟨⟨hL, fun b hb => ?_, fresh_below hg (below_step F.bel B0) F.fresh⟩⟩⟩
  rcases hat with e | ⟨b', e, hle⟩
  · exact F.fresh b (by rw [← e]; exact hb)
  · rw [e] at hb
    injection hb with hb
    exact Nat.le_trans (Nat.le_trans F.bel.size B0.size) (by omega)
theorem keep_keys (k : Int) : ∀ {L M : List Gr}, L.map keyOf = M.map keyOf → (keepG k L).map keyOf = (keepG k M).map keyOf
  | [], [], _ => rfl
  | [], y :: M, h => by simp at h
  | x :: L, [], h => by simp at h
  | x :: L, y :: M, h => by
    simp only [List.map_cons, List.cons.injEq] at h
    have ih := keep_keys k h.2
    have e : x.1 = y.1 := congrArg (fun q : Int × List Int => q.1) h.1
    unfold keepG at ih ⊢
    by_cases c : y.1 = k
    · have c' : x.1 = k := e.trans c
      simp only [List.filter_cons, c, c', ne_eq, not_true_eq_false, decide_false, Bool.false_eq_true, if_false]
      exact ih
    · have c' : ¬ x.1 = k := fun h => c (e.symm.trans h)
      simp only [List.filter_cons, c, c', ne_eq, not_false_eq_true, decide_true, if_true, List.map_cons, ih, h.1]
theorem Filt.clear {w0 wO w : World} {p : Nat} {v l mv : Value} {L M : List Gr} {k : Int} {j : Nat} (F : Filt w0 wO w mv M k j) (H : Both w0 wO p v l L M) (hj : M.length ≤ j) (nm : Nat) (hnm : (keepG k M).length = nm) :
    Calls Try.prog 20 #[.pointer (some ⟨p, 0, none⟩), .int .i64 k] w fun e w3 => e = .returned (.int .i64 ((M.length : Int) - (nm : Int))) ∧ ∃ v3, Aside0 (Grown w0 w3 p v3 mv (keepG k L) (keepG k M)) := by
  have H1 := H.below F.bel
  have hm := F.m
  rw [List.take_of_length_le hj] at hm
  have hkk := keep_keys k H.key
  have hlk : (keepG k L).length = nm := by have := congrArg List.length hkk; simp only [List.length_map] at this; omega
  refine (clear_calls w w0.heap.size p v L k H1.net (by have := H.llen; have := H.len; omega)).mono ?_
  rintro e w3 ⟨rfl, ⟨⟨v3, hN, _⟩, hK⟩⟩
  have hle := keepG_le k M
  refine ⟨by rw [H.llen, hlk], v3, ⟨hN, hm.far hK (net_S H1.net), ?_, by have := H.len; omega, below_ks H1.bel hK H1.net.S, fun y hy => H.bys y (List.mem_filter.1 hy).1⟩⟩
  rw [show (keepG k M).length - 256 = 0 by have := H.len; omega, List.drop_zero, hkk]
theorem Both.cells {w0 w : World} {p g o c : Nat} {v : Value} {L M : List Gr} (H : Both w0 w p v (.slice (some ⟨g, o, none⟩) M.length c) L M) {j : Nat} {x : Gr} (hx : M[j]? = some x) : w.cell? ⟨g, o + j * 2, none⟩ = some (.int .i64 x.1) ∧ w.cell? ⟨g, o + j * 2 + 1, none⟩ = some x.2.1 := by
  obtain ⟨g', o', c', e', k1, k2⟩ := H.own.at_ hx
  injection e' with e1' _ _
  injection e1' with e1'
  injection e1' with eg eo _
  subst eg eo
  exact ⟨k1, k2⟩
theorem wp_cut2 {P : Program} {Q : Exit → Act → World → Prop} {a : Act} {w : World} {x1 x2 y : Code} (M : Act → World → Prop) (h1 : ∀ K : Act → World → Prop, (∀ a w, x2.wp P (Exit.then M Q) a w → K a w) → x1.wp P (Exit.then K Q) a w) (h2 : ∀ a' w', M a' w' → y.wp P Q a' w') : (Code.seq x1 (Code.seq x2 y)).wp P Q a w := by
  refine wp_seq (wp_mono (h1 _ (fun _ _ h => h)) fun e a' w' he => ?_)
  cases e with
  | normal => exact wp_seq (wp_mono he fun e2 a2 w2 h => by
      cases e2 with
      | normal => exact h2 _ _ h
      | _ => exact h)
  | _ => exact he
theorem short20 (w : World) (n c : Nat) (A : Option Addr) (bs : List Int) (h : RdB w (.slice A n c) bs) (hl : n ≤ 9223372036854775807) (hc : n ≤ c) :
    Calls Try.prog 17 #[.slice A n c, .int .i64 20] w fun e w' => ∃ v', e = .returned v' ∧ (RdB w v' (bs.take 20) ∧ CapOk v') ∧ w' = w := short_calls w n c 20 A bs h hl hc (by decide)
theorem Grown.lenc {w0 w : World} {p : Nat} {v l : Value} {L M : List Gr} (G : Grown w0 w p v l L M) (n : Nat) (hn : n = M.length - (M.length - 256)) : Calls Try.prog 15 #[.pointer (some ⟨p, 0, none⟩)] w fun e w' => e = .returned (.int .i64 (n : Int)) ∧ w' = w := by
  obtain ⟨A, c, rfl⟩ := own_shape G.net.row
  have := len_calls w p L.length c A G.net.blk
  rw [G.llen, ← hn] at this
  exact this
def Hold (p : Prop) : Prop := p
theorem hold {p : Prop} (h : Hold p) : p := h
theorem app_event {P : Program} {ops : Array Oper} {rest : List Oper} {o : Oper} {a : Act} {W w1 : World} {Q' : Exit → Act → World → Prop} (hgd : o.guard = none) {s x : Operand} {t : TypeId}
    (ho : o.op = .call { callee := .builtin .append, args := #[s, x], argTypes := #[t, t] }) {v u v1 : Value} (hs : a.eval s = v) (hx : a.eval x = u) (hr : (Builtin.append_ #[t, t] o.type #[v, u]).run P W = .ok v1 w1)
    (h : wpList P ops Q' rest (a.put o.dst v1) w1) : wpList P ops Q' (o :: rest) a W := by
  refine wpList_plain hgd fun K hK => ?_
  unfold Oper.wp execOp
  simp only [ho, resolve, invoke, builtin, Sem.run_bind, Sem.run_pure, Result.andThen_ok, List.map_toArray, List.map_cons, List.map_nil, hs, hx, hr]
  exact hK _ _ h
end Go.Proofs.Ytlfckoeolcnniaa.Net
