/- Walks of net: New, Len, Send, Take, Drop, Double. -/
import Derived.Test.YtlfckoeolcnniaaNetA
import Derived.Test.YtlfckoeolcnniaaWGuard
import Derived.Test.YtlfckoeolcnniaaWMore
import Derived.OwnWalk
namespace Go.Proofs.Ytlfckoeolcnniaa.Net
open Go.RowKit Go.Proofs.YtlfckoeolcnniaaW.PrintWords Go.Proofs.YtlfckoeolcnniaaW.PrintLast Go.Proofs.YtlfckoeolcnniaaW.PrintMore
set_option linter.unusedVariables false
set_option linter.unusedSimpArgs false
/-- what waits: to whom, the slice, its bytes -/
abbrev Gr := Int × Value × List Int
def flat : List Gr → List Value
  | [] => []
  | x :: r => .int .i64 x.1 :: x.2.1 :: flat r
theorem flat_len : ∀ L : List Gr, (flat L).length = L.length * 2
  | [] => rfl
  | x :: r => by simp only [flat, List.length_cons, flat_len r]; omega
theorem flat_app : ∀ (L R : List Gr), flat (L ++ R) = flat L ++ flat R
  | [], R => rfl
  | x :: r, R => by simp only [List.cons_append, flat, flat_app r R]
theorem flat_take : ∀ (L : List Gr) (i : Nat), flat (L.take i) = (flat L).take (i * 2)
  | [], i => by simp [flat]
  | x :: r, 0 => by simp [flat]
  | x :: r, i + 1 => by rw [List.take_succ_cons, flat, flat, flat_take r i, show (i + 1) * 2 = i * 2 + 1 + 1 by omega, List.take_succ_cons, List.take_succ_cons]
theorem flat_drop : ∀ (L : List Gr) (i : Nat), flat (L.drop i) = (flat L).drop (i * 2)
  | [], i => by simp [flat]
  | x :: r, 0 => by simp
  | x :: r, i + 1 => by rw [List.drop_succ_cons, flat, flat_drop r i, show (i + 1) * 2 = i * 2 + 1 + 1 by omega, List.drop_succ_cons, List.drop_succ_cons]
theorem flat_at0 : ∀ (L : List Gr) (i : Nat) (x : Gr), L[i]? = some x → (flat L)[i * 2]? = some (.int .i64 x.1) ∧ (flat L)[i * 2 + 1]? = some x.2.1
  | [], i, x, h => by simp at h
  | y :: r, 0, x, h => by simp at h; subst h; exact ⟨rfl, rfl⟩
  | y :: r, i + 1, x, h => by
    simp only [List.getElem?_cons_succ] at h
    have := flat_at0 r i x h
    rw [flat, show (i + 1) * 2 = i * 2 + 1 + 1 by omega, List.getElem?_cons_succ, List.getElem?_cons_succ, List.getElem?_cons_succ, List.getElem?_cons_succ]
    exact this
structure NetHas (w : World) (base p : Nat) (v : Value) (L : List Gr) : Prop where
  le : base ≤ p
  blk : w.heap[p]? = some (.cells #[v] 59 (0, 0))
  row : w.ownsRow base 61 2 v L.length (flat L)
  els : ∀ x ∈ L, HasB w base x.2.1 x.2.2
theorem own_one {w : World} {base : Nat} {e : TypeId} {size : Nat} {v : Value} {n : Nat} {xs : List Value} (h : w.ownsRow base e size v n xs) : v.oneCell' = true := by
  rcases h.2 with ⟨rfl, _⟩ | ⟨g, cap, cur, rfl, _⟩ <;> rfl
theorem flat_one {w : World} {base : Nat} : ∀ (L : List Gr), (∀ x ∈ L, HasB w base x.2.1 x.2.2) → ∀ u ∈ flat L, u.oneCell' = true
  | [], _, u, hu => by simp [flat] at hu
  | x :: r, h, u, hu => by
    simp only [flat, List.mem_cons] at hu
    rcases hu with rfl | rfl | hu
    · rfl
    · exact own_one (h x (by simp))
    · exact flat_one r (fun y hy => h y (by simp [hy])) u hu
/-- a row's block, and whose it is -/
theorem own_blk {w : World} {base : Nat} {e : TypeId} {size : Nat} {v : Value} {n : Nat} {xs : List Value} (h : w.ownsRow base e size v n xs) {k : Nat} (hk : v.ownBlock = some k) : base ≤ k ∧ ∃ cs, w.heap[k]? = some (.cells cs e (0, 0)) := by
  rcases h.2 with ⟨rfl, _⟩ | ⟨g, cap, cur, rfl, hb, hg, _⟩
  · simp [Value.ownBlock] at hk
  · simp [Value.ownBlock] at hk
    subst hk
    exact ⟨hb, _, hg⟩
/-- what is no row of datagrams and no Net is as it was -/
def Far (w w' : World) : Prop := KS w w' (fun k => ∃ cs, w.heap[k]? = some (.cells cs 59 (0, 0)) ∨ w.heap[k]? = some (.cells cs 61 (0, 0)))
theorem hasB_far {w w' : World} {base : Nat} {v : Value} {bs : List Int} (h : HasB w base v bs) {S : Nat → Prop} (hk : KS w w' S) (hS : ∀ k, S k → ∃ cs t, w.heap[k]? = some (.cells cs t (0, 0)) ∧ t ≠ 5) : HasB w' base v bs := by
  refine own_kept h hk fun k hv hs => ?_
  obtain ⟨_, cs, h1⟩ := own_blk h hv
  obtain ⟨cs', t, h2, hne⟩ := hS k hs
  exact blk_ne h1 h2 (fun e => hne e.symm) rfl
set_option maxHeartbeats 2000000 in
set_option maxRecDepth 100000 in
theorem new_calls (w : World) : Calls Try.prog 13 #[] w fun e w' => ∃ p, e = .returned (.pointer (some ⟨p, 0, none⟩)) ∧ w.heap.size ≤ p ∧ w'.heap[p]? = some (.cells #[.slice none 0 0] 59 (0, 0)) ∧ Below w.heap.size w w' := by
  go_enter Try.func13, Try.ntmps13
  go_wp2
  go_ret
  exact ⟨_, rfl, Nat.le_refl _, blk_new w _, below_alloc (Below.refl _ _) _⟩
set_option maxHeartbeats 2000000 in
set_option maxRecDepth 100000 in
theorem len_calls (w : World) (p n c : Nat) (A : Option Addr) (hb : w.heap[p]? = some (.cells #[.slice A n c] 59 (0, 0))) : Calls Try.prog 15 #[.pointer (some ⟨p, 0, none⟩)] w fun e w' => e = .returned (.int .i64 n) ∧ w' = w := by
  have c0 := (blk_cell hb 0).trans rfl
  clear hb
  go_enter Try.func15, Try.ntmps15
  go_wp2
  go_ret
  exact ⟨rfl, rfl⟩
set_option maxHeartbeats 2000000 in
set_option maxRecDepth 100000 in
theorem len_nil (w : World) : Calls Try.prog 15 #[.pointer none] w fun e w' => e = .returned (.int .i64 0) ∧ w' = w := by
  go_enter Try.func15, Try.ntmps15
  go_wp2
  go_ret
  exact ⟨rfl, rfl⟩
set_option maxHeartbeats 2000000 in
set_option maxRecDepth 100000 in
theorem take_out (w : World) (p n c : Nat) (A : Option Addr) (k : Int) (hb : w.heap[p]? = some (.cells #[.slice A n c] 59 (0, 0))) (hk : k < 0 ∨ (n : Int) ≤ k) :
    Calls Try.prog 16 #[.pointer (some ⟨p, 0, none⟩), .int .i64 k] w fun e w' => e = .returned (.tuple #[.int .i64 0, .slice none 0 0, .bool false]) ∧ w' = w := by
  by_cases c : k < 0
  · go_enter Try.func16, Try.ntmps16
    go_wp2
    ((try simp only [Exit.inBlock, Exit.then]); refine bodyPost_ret (results_tmp3 rfl _ _ _) rfl ?_)
    exact ⟨rfl, rfl⟩
  · have c1 : (n : Int) ≤ k := by omega
    have c2 := decide_eq_false c
    clear hk
    go_enter Try.func16, Try.ntmps16
    go_wp2_with (first
      | ((with_reducible refine gate_callee (f := 15) rfl ?_); (try (refine gate_guard (by rfl) ?_; dsimp only)); refine goesL_ (some 13) rfl rfl Try.func15 (by kernel_rfl) rfl #[.pointer (some ⟨p, 0, none⟩)] rfl (by (try simp only [List.map_toArray, List.map_cons, List.map_nil]); first | done | rfl) ?_; (with_reducible refine (len_calls _ p n _ A hb).mono ?_); rintro e w12 ⟨rfl, rfl⟩; refine ⟨_, rfl, ?_⟩))
    ((try simp only [Exit.inBlock, Exit.then]); refine bodyPost_ret (results_tmp3 rfl _ _ _) rfl ?_)
    exact ⟨rfl, rfl⟩
set_option maxHeartbeats 4000000 in
set_option maxRecDepth 100000 in
theorem take_calls (w : World) (base p : Nat) (v : Value) (L : List Gr) (k : Nat) (x : Gr) (h : NetHas w base p v L) (hb : base ≤ w.heap.size) (hl : L.length ≤ 1000) (hx : L[k]? = some x) (kk : Int) (hkk : kk = (k : Int)) :
    Calls Try.prog 16 #[.pointer (some ⟨p, 0, none⟩), .int .i64 kk] w fun e w' => e = .returned (.tuple #[.int .i64 x.1, x.2.1, .bool true]) ∧ ∃ v', NetHas w' base p v' (L.eraseIdx k) ∧ KS w w' (fun i => i = p ∨ v.ownBlock = some i) ∧ v'.ownBlock = v.ownBlock ∧ HasB w' base x.2.1 x.2.2 := by
  subst hkk
  have hk : k < L.length := (List.getElem?_eq_some_iff.1 hx).1
  have hrow := h.row
  rcases hrow.2 with ⟨_, h0⟩ | ⟨g, cap, cur, rfl, hbg, hg, hle, hm, hs, ht⟩
  · omega
  have hblk := h.blk
  have hgp : g ≠ p := blk_ne hg hblk (by decide)
  obtain ⟨f0, f1⟩ := flat_at0 L k x hx
  have fl := flat_len L
  have c0 : cur[k * 2]? = some (.int .i64 x.1) := by
    rw [← ht, List.getElem?_take, if_pos (by omega)] at f0
    simpa using f0
  have c1 : cur[k * 2 + 1]? = some x.2.1 := by
    rw [← ht, List.getElem?_take, if_pos (by omega)] at f1
    simpa using f1
  have d0 := (blk_cell hg (k * 2)).trans c0
  have d1 := (blk_cell hg (k * 2 + 1)).trans c1
  have e0 := (blk_cell hblk 0).trans rfl
  have one := flat_one L h.els
  obtain ⟨t, u, bs⟩ := x
  obtain ⟨Au, nu, cu, rfl⟩ : ∃ A n c, u = .slice A n c := by
    rcases (h.els _ (List.mem_of_getElem? hx)).2 with ⟨e, _⟩ | ⟨g, cap, cur, e, _⟩
    · exact ⟨_, _, _, e⟩
    · exact ⟨_, _, _, e⟩
  have k0 : (k : Int) < (L.length : Int) := by omega
  have k1 : (0 : Int) ≤ (k : Int) := by omega
  have k2 : ((L.length : Int) ≤ (k : Int)) = False := eq_false (by omega)
  have k3 : ((k : Int) < 0) = False := eq_false (by omega)
  have X := Aside0.mk h
  have X1 := Aside0.mk hblk
  have X2 := Aside0.mk hg
  have X3 : Aside0 (∀ u ∈ cur.toList.take (L.length * 2), u.oneCell' = true) := ⟨by rw [ht]; exact one⟩
  have kw : IntKind.i64.wrap ((k : Int) + 1) = (k : Int) + 1 := by rw [IntKind.wrap_i64]; omega
  have a0 : ∀ o, (w.alloc o).cell? ⟨p, 0, none⟩ = some (.slice (some ⟨g, 0, none⟩) L.length cap) := fun o => Lib.cell?_alloc_some o e0
  clear h hrow one
  go_enter Try.func16, Try.ntmps16
  go_wp2_with (first
    | ((with_reducible refine gate_callee (f := 15) rfl ?_); (try (refine gate_guard (by rfl) ?_; dsimp only)); refine goesL_ (some 13) rfl rfl Try.func15 (by kernel_rfl) rfl #[.pointer (some ⟨p, 0, none⟩)] rfl (by (try simp only [List.map_toArray, List.map_cons, List.map_nil]); first | done | rfl) ?_; (with_reducible refine (len_calls _ p L.length _ _ hblk).mono ?_); rintro e w12 ⟨rfl, rfl⟩; refine ⟨_, rfl, ?_⟩)
    | ((with_reducible refine gate_callee (f := 36) rfl ?_); refine goesL_ (some 31) rfl rfl Try.func36 (by kernel_rfl) rfl #[.slice (some ⟨g, 0, none⟩) L.length cap, .int .i64 k, .int .i64 ((k + 1 : Nat) : Int)] rfl (by (try simp only [List.map_toArray, List.map_cons, List.map_nil]); first | done | rfl) ?_; (with_reducible refine (delete_calls g L.length cap k cur _ (blk_alloc X2.out _) hs hle hm hk X3.out).mono ?_); rintro e w13 ⟨rfl, ⟨cur', hn1, hn2, hn3⟩, hkp⟩; refine ⟨_, rfl, ?_⟩; have hpw := blk_ks (blk_alloc X1.out (.cells #[.int .i64 t, .slice Au nu cu] 61 (0, 0))) hkp (fun e => hgp e.symm); have s0 := (blk_cell hpw 0).trans rfl; have s1 := blk_frozen hpw 0))
  have hgl := blk_lt X2.out
  have hpl := blk_lt X1.out
  have hd := blk_far (blk_ks (blk_new w12 (.cells #[.int .i64 t, .slice Au nu cu] 61 (0, 0))) hkp (by omega)) (p := ⟨p, 0, none⟩) (by show w12.heap.size ≠ p; omega) (.slice (some ⟨g, 0, none⟩) (L.length - 1) cap)
  have x0 := (blk_cell (blk_drew hd) 0).trans rfl
  have x1 := (blk_cell (blk_drew hd) 1).trans rfl
  clear hd
  go_region
  go_wp2
  ((try simp only [Exit.inBlock, Exit.then]); refine bodyPost_ret (results_tmp3 rfl _ _ _) rfl ?_)
  have kt : KS w12 (w13.setCell ⟨p, 0, none⟩ (.slice (some ⟨g, 0, none⟩) (L.length - 1) cap)).drew (fun i => i = p ∨ i = g) :=
    ((((KS.refl w12 (fun i => i = p ∨ i = g)).alloc (.cells #[.int .i64 t, .slice Au nu cu] 61 (0, 0))).then_ hkp (fun i h => .inl (.inr h))).setCell (p := ⟨p, 0, none⟩) (.inl (.inl rfl)) _).drew
  have le : (L.eraseIdx k).length = L.length - 1 := by rw [List.length_eraseIdx, if_pos hk]
  have S3 : ∀ i, (i = p ∨ i = g) → ∃ cs t, w12.heap[i]? = some (.cells cs t (0, 0)) ∧ t ≠ 5 := fun i hi => by
    rcases hi with rfl | rfl
    · exact ⟨_, _, X1.out, by decide⟩
    · exact ⟨_, _, X2.out, by decide⟩
  refine ⟨rfl, .slice (some ⟨g, 0, none⟩) (L.length - 1) cap, ⟨X.out.le, blk_drew (blk_put hpw 0 _ rfl), ?_, ?_⟩, ?_, rfl, ?_⟩
  · rw [le]
    refine ⟨by rw [flat_len, le], .inr ⟨g, cap, cur', rfl, hbg, blk_drew (blk_far hn1 (p := ⟨p, 0, none⟩) hgp _), by omega, hm, hn2, ?_⟩⟩
    rw [hn3, ht, List.eraseIdx_eq_take_drop_succ, flat_app, flat_take, flat_drop, ← ht, List.take_take]
    rw [show min (k * 2) (L.length * 2) = k * 2 by omega]
  · intro x hx'
    exact hasB_far (X.out.els x (List.mem_of_mem_eraseIdx hx')) kt S3
  · exact kt.mono (fun i hi => hi.imp id (fun h => by rw [h]; rfl))
  · exact hasB_far (X.out.els _ (List.mem_of_getElem? hx)) kt S3
end Go.Proofs.Ytlfckoeolcnniaa.Net
