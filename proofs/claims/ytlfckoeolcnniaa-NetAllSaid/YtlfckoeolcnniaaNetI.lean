/- Walks of net: DeleteFunc. -/
import Derived.Test.YtlfckoeolcnniaaNetH
namespace Go.Proofs.Ytlfckoeolcnniaa.Net
open Go.RowKit Go.Proofs.YtlfckoeolcnniaaW.PrintWords Go.Proofs.YtlfckoeolcnniaaW.PrintLast Go.Proofs.YtlfckoeolcnniaaW.PrintMore
set_option linter.unusedVariables false
set_option linter.unusedSimpArgs false
/-- clear of m elements of two cells -/
theorem run_clearN {P : Program} (w : World) (t e ty : TypeId) (z : Value) (z0 z1 : Value) (ht : P.underlying t = some (.slice e)) (hv : ∀ w, (zeroValue e).run P w = .ok z w) (hz : z.cells = #[z0, z1]) (h0 : z0.oneCell' = true) (h1 : z1.oneCell' = true) (g o c m : Nat)
    (te : TypeId) (cur : Array Value) (hg : w.heap[g]? = some (.cells cur te (0, 0))) (hfit : o + m * 2 ≤ cur.size) (hm : 0 < m) :
    ∃ zs : List Value, zs.length = m * 2 ∧ (Builtin.clear_ #[t] ty #[.slice (some ⟨g, o, none⟩) m c]).run P w = .ok (.tuple #[]) (w.setRow g (cur.toList.take o ++ zs ++ cur.toList.drop (o + m * 2)).toArray) := by
  have hlen : (Builtin.zeroCells z.cells m).toList.length = m * 2 := by
    rw [hz]
    simp [Builtin.zeroCells]
  have hone : ∀ v ∈ (Builtin.zeroCells z.cells m).toList, v.oneCell' = true := by
    intro v hv'
    rw [hz] at hv'
    simp only [Builtin.zeroCells, Array.toList_map, List.mem_map] at hv'
    obtain ⟨i, _, rfl⟩ := hv'
    rcases Nat.mod_two_eq_zero_or_one i with h | h
    · simpa [h] using h0
    · simpa [h] using h1
  refine ⟨_, hlen, ?_⟩
  have hst := run_storeCells_at P g o te (Builtin.zeroCells z.cells m).toList 0 cur w hg (by rw [hlen]; omega) hone
  simp only [Nat.add_zero, hlen] at hst
  obtain ⟨m', rfl⟩ : ∃ m', m = m' + 1 := ⟨m - 1, by omega⟩
  simp [Builtin.clear_, run_underlying ht, hv, hst]
/-- what is not to somebody -/
def keepG (k : Int) (L : List Gr) : List Gr := L.filter (fun x => decide (x.1 ≠ k))
structure DelF (w w' : World) (g cap : Nat) (L : List Gr) : Prop where
  out : ∃ cur : Array Value, w'.heap[g]? = some (.cells cur 61 (0, 0)) ∧ cur.size = cap * 2 ∧ cur.toList.take (L.length * 2) = flat L
  ks : KS w w' (fun k => k = g)
/-- the row in the midst of it: what was kept stands in front, what is to come as it was -/
structure Mid (w' : World) (g cap i j : Nat) (k : Int) (L : List Gr) : Prop where
  out : ∃ cur : Array Value, w'.heap[g]? = some (.cells cur 61 (0, 0)) ∧ cur.size = cap * 2 ∧ cur.toList.take (i * 2) = flat (keepG k (L.take j)) ∧ ∀ (t : Nat) (x : Gr), j ≤ t → L[t]? = some x → cur[t * 2]? = some (.int .i64 x.1) ∧ cur[t * 2 + 1]? = some x.2.1
  len : (keepG k (L.take j)).length = i
  lt : i < j
theorem flat_append : ∀ (A B : List Gr), flat (A ++ B) = flat A ++ flat B
  | [], _ => rfl
  | x :: r, B => by simp only [List.cons_append, flat, flat_append r B]
theorem flat_takeG : ∀ (L : List Gr) (j : Nat), flat (L.take j) = (flat L).take (j * 2)
  | [], j => by simp [flat]
  | x :: r, 0 => by simp [flat]
  | x :: r, j + 1 => by
    rw [List.take_succ_cons, show (j + 1) * 2 = j * 2 + 1 + 1 by omega]
    simp only [flat, List.take_succ_cons, flat_takeG r j]
theorem keep_succ {k : Int} {L : List Gr} {j : Nat} {x : Gr} (h : L[j]? = some x) : keepG k (L.take (j + 1)) = keepG k (L.take j) ++ (if x.1 = k then [] else [x]) := by
  unfold keepG
  rw [List.take_add_one, h, List.filter_append]
  by_cases hk : x.1 = k <;> simp [hk]
theorem keep_first {k : Int} {L : List Gr} {j : Nat} (h : ∀ (i : Nat) (y : Gr), i < j → L[i]? = some y → y.1 ≠ k) : keepG k (L.take j) = L.take j := by
  unfold keepG
  refine List.filter_eq_self.2 (fun x hx => ?_)
  obtain ⟨i, hi⟩ := List.mem_iff_getElem?.1 hx
  rw [List.getElem?_take] at hi
  split at hi
  · exact decide_eq_true (h i x (by assumption) hi)
  · cases hi
theorem Mid.start {w : World} {g cap : Nat} {k : Int} {L : List Gr} {cur : Array Value} {j : Nat} {x : Gr} (hg : w.heap[g]? = some (.cells cur 61 (0, 0))) (hs : cur.size = cap * 2) (ht : cur.toList.take (L.length * 2) = flat L)
    (hx : L[j]? = some x) (hk : x.1 = k) (hbf : ∀ (i : Nat) (y : Gr), i < j → L[i]? = some y → y.1 ≠ k) : Mid w g cap j (j + 1) k L := by
  have hj := (List.getElem?_eq_some_iff.1 hx).1
  have hK : keepG k (L.take (j + 1)) = L.take j := by rw [keep_succ hx, if_pos hk, List.append_nil, keep_first hbf]
  have fl := flat_len L
  refine ⟨⟨cur, hg, hs, ?_, fun t y _ hy => ?_⟩, by rw [hK, List.length_take]; omega, by omega⟩
  · rw [hK, flat_takeG, ← ht, List.take_take]
    congr 1
    omega
  · have hi := (List.getElem?_eq_some_iff.1 hy).1
    obtain ⟨f0, f1⟩ := flat_at0 L t y hy
    constructor
    · rw [← ht, List.getElem?_take, if_pos (by omega)] at f0
      simpa using f0
    · rw [← ht, List.getElem?_take, if_pos (by omega)] at f1
      simpa using f1
theorem Mid.skip {w : World} {g cap i j : Nat} {k : Int} {L : List Gr} {x : Gr} (h : Mid w g cap i j k L) (hx : L[j]? = some x) (hk : x.1 = k) : Mid w g cap i (j + 1) k L := by
  obtain ⟨⟨cur, h1, h2, h3, h4⟩, h5, h6⟩ := h
  have hK : keepG k (L.take (j + 1)) = keepG k (L.take j) := by rw [keep_succ hx, if_pos hk, List.append_nil]
  exact ⟨⟨cur, h1, h2, by rw [hK]; exact h3, fun t y ht hy => h4 t y (by omega) hy⟩, by rw [hK]; exact h5, by omega⟩
theorem set2_take (l : List Value) (n : Nat) (a b : Value) (h : n + 1 < l.length) : ((l.set n a).set (n + 1) b).take (n + 2) = l.take n ++ [a, b] := by
  apply List.ext_getElem?
  intro i
  rw [List.getElem?_take, List.getElem?_append, List.length_take, Nat.min_eq_left (by omega)]
  by_cases h1 : i < n
  · rw [if_pos (by omega), if_pos h1, List.getElem?_set_ne (by omega), List.getElem?_set_ne (by omega), List.getElem?_take, if_pos h1]
  · rw [if_neg h1]
    by_cases h2 : i = n
    · subst h2
      rw [if_pos (by omega), List.getElem?_set_ne (by omega), List.getElem?_set_self (by omega), Nat.sub_self]
      rfl
    · by_cases h3 : i = n + 1
      · subst h3
        rw [if_pos (by omega), List.getElem?_set_self (by rw [List.length_set]; omega), show n + 1 - n = 1 by omega]
        rfl
      · rw [if_neg (by omega)]
        exact (List.getElem?_eq_none (by simp; omega)).symm
theorem Mid.keep {w : World} {g cap i j : Nat} {k : Int} {L : List Gr} {x : Gr} (h : Mid w g cap i j k L) (hx : L[j]? = some x) (hk : x.1 ≠ k) (hn : L.length ≤ cap) :
    Mid ((w.setCell ⟨g, i * 2, none⟩ (.int .i64 x.1)).setCell ⟨g, i * 2 + 1, none⟩ x.2.1) g cap (i + 1) (j + 1) k L := by
  obtain ⟨⟨cur, h1, h2, h3, h4⟩, h5, h6⟩ := h
  have hj := (List.getElem?_eq_some_iff.1 hx).1
  have hK : keepG k (L.take (j + 1)) = keepG k (L.take j) ++ [x] := by rw [keep_succ hx, if_neg hk]
  refine ⟨⟨_, blk_put (blk_put h1 (i * 2) (.int .i64 x.1) rfl) (i * 2 + 1) x.2.1 rfl, by simp [h2], ?_, fun t y ht hy => ?_⟩, by rw [hK, List.length_append, h5]; rfl, by omega⟩
  · rw [hK, flat_append, ← h3, show (i + 1) * 2 = i * 2 + 2 by omega]
    simp only [Array.toList_setIfInBounds]
    rw [set2_take _ _ _ _ (by simp [h2]; omega)]
    rfl
  · have hty := (List.getElem?_eq_some_iff.1 hy).1
    obtain ⟨c0, c1⟩ := h4 t y (by omega) hy
    constructor
    · rw [Array.getElem?_setIfInBounds_ne (by omega), Array.getElem?_setIfInBounds_ne (by omega)]
      exact c0
    · rw [Array.getElem?_setIfInBounds_ne (by omega), Array.getElem?_setIfInBounds_ne (by omega)]
      exact c1
theorem Mid.below {w w' : World} {g cap i j : Nat} {k : Int} {L : List Gr} (h : Mid w g cap i j k L) (hb : Below w.heap.size w w') : Mid w' g cap i j k L := by
  obtain ⟨⟨cur, h1, h2⟩, h5, h6⟩ := h
  exact ⟨⟨cur, blk_below h1 hb, h2⟩, h5, h6⟩
theorem Mid.at_ {w : World} {g cap i j : Nat} {k : Int} {L : List Gr} {x : Gr} (h : Mid w g cap i j k L) (hx : L[j]? = some x) : w.cell? ⟨g, j * 2, none⟩ = some (.int .i64 x.1) ∧ w.cell? ⟨g, j * 2 + 1, none⟩ = some x.2.1 := by
  obtain ⟨⟨cur, h1, h2, h3, h4⟩, h5, h6⟩ := h
  obtain ⟨c0, c1⟩ := h4 j x (Nat.le_refl _) hx
  exact ⟨(blk_cell h1 (j * 2)).trans c0, (blk_cell h1 (j * 2 + 1)).trans c1⟩
theorem Mid.in_ {w : World} {g cap i j : Nat} {k : Int} {L : List Gr} (h : Mid w g cap i j k L) (t : Nat) (ht : t < cap * 2) : (∃ v, w.cell? ⟨g, t, none⟩ = some v) ∧ w.frozen? ⟨g, t, none⟩ = false := by
  obtain ⟨⟨cur, h1, h2, h3, h4⟩, h5, h6⟩ := h
  exact ⟨⟨_, (blk_cell h1 t).trans (Array.getElem?_eq_getElem (by omega))⟩, blk_frozen h1 t⟩
set_option maxHeartbeats 8000000 in
set_option maxRecDepth 100000 in
theorem delfunc_calls (w : World) (q g cap : Nat) (cur : Array Value) (L : List Gr) (k : Int) (hq : w.heap[q]? = some (.cells #[.int .i64 k] 3 (0, 0))) (hg : w.heap[g]? = some (.cells cur 61 (0, 0))) (hs : cur.size = cap * 2) (hn : L.length ≤ cap) (hm : cap ≤ maxLen) (ht : cur.toList.take (L.length * 2) = flat L) (hl : L.length ≤ 1000) (hsl : ∀ x ∈ L, ∃ A n c, x.2.1 = .slice A n c) :
    Calls Try.prog 37 #[.slice (some ⟨g, 0, none⟩) L.length cap, .func (.func 38) #[] #[.pointer (some ⟨q, 0, none⟩)]] w fun e w' => e = .returned (.slice (some ⟨g, 0, none⟩) (keepG k L).length cap) ∧ DelF w w' g cap (keepG k L) := by
  have HQ := Aside0.mk hq
  have HG := Aside0.mk hg
  have HT := Aside0.mk ht
  have HS := Aside0.mk hsl
  clear hq hg ht hsl
  go_enter Try.func37, Try.ntmps37
  go_wp2_with (first
    | ((with_reducible refine gate_callee (f := 49) rfl ?_); refine goesL_ (some 10) rfl rfl Try.func49 (by kernel_rfl) rfl #[.slice (some ⟨g, 0, none⟩) L.length cap, .func (.func 38) #[] #[.pointer (some ⟨q, 0, none⟩)]] rfl (by (try simp only [List.map_toArray, List.map_cons, List.map_nil]); first | done | rfl) ?_; (refine (index_calls w q g 0 cap cur L k HQ.out HG.out hs hn HT.out hl HS.out).mono ?_); rintro e w1 ⟨r, rfl, hI, hb⟩; refine ⟨_, rfl, ?_⟩; have I1 := Aside0.mk hI; have B1 := Aside0.mk hb; clear hI hb))
  · have hr : r = -1 := by simpa using ‹(r == -1) = true›
    rcases I1.out.out with ⟨_, hall⟩ | ⟨j, x, hj, _⟩
    · have hF : keepG k L = L := List.filter_eq_self.2 (fun x hx => by
        obtain ⟨j, hj⟩ := List.mem_iff_getElem?.1 hx
        exact decide_eq_true (hall j x hj))
      go_ret
      rw [hF]
      exact ⟨rfl, ⟨⟨cur, blk_below HG.out B1.out, hs, HT.out⟩, KS.of_below B1.out _⟩⟩
    · omega
  · have hr : r ≠ -1 := by simpa using ‹(r == -1) = false›
    rcases I1.out.out with ⟨h, _⟩ | ⟨j0, x0, hj, hx0, hxk, hbf⟩
    · exact absurd h hr
    · subst hj
      have hj0 := (List.getElem?_eq_some_iff.1 hx0).1
      have M0 : Aside0 (Mid w1 g cap j0 (j0 + 1) k L) := ⟨Mid.start (blk_below HG.out B1.out) hs HT.out hx0 hxk hbf⟩
      have K0 : Aside0 (KS w w1 (fun k => k = g)) := ⟨KS.of_below B1.out _⟩
      have qg : q ≠ g := fun e => blk_ne HQ.out HG.out (by decide) e
      clear hr hbf hxk I1
      go_loopg [5, 6] (L.length + 3) (fun kq v5 v6 w' => ∃ i j : Nat, v5 = .int .i64 (i : Nat) ∧ v6 = .int .i64 (j : Nat) ∧ j ≤ L.length ∧ L.length - j < kq ∧ Aside0 (Mid w' g cap i j k L) ∧ Aside0 (KS w w' (fun k => k = g)))
      case atStart => exact ⟨j0, j0 + 1, rfl, congrArg (Value.int .i64) (by first | omega | (unfold wrap64; omega)), by omega, by omega, M0, K0⟩
      case round =>
        clear M0 K0
        obtain ⟨i, j, rfl, rfl, hj, hkq, M, K⟩ := hrel
        cases gk with
        | zero => omega
        | succ k2 =>
          have QB : Aside0 (wr.heap[q]? = some (.cells #[.int .i64 k] 3 (0, 0))) := ⟨blk_ks HQ.out K.out qg⟩
          have hij := M.out.lt
          by_cases c : j < L.length
          · obtain ⟨x, hx⟩ : ∃ x, L[j]? = some x := ⟨_, List.getElem?_eq_getElem c⟩
            obtain ⟨e0, e1⟩ := M.out.at_ hx
            have hxs := HS.out _ (List.mem_of_getElem? hx)
            obtain ⟨t, u, bs⟩ := x
            obtain ⟨Au, nu, cu, rfl⟩ := hxs
            have q2 : decide ((j : Int) < (L.length : Int)) = true := decide_eq_true (by omega)
            have q3 : IntKind.i64.wrap ((j : Int) + 1) = (j : Int) + 1 := by rw [IntKind.wrap_i64]; omega
            have q4 : IntKind.i64.wrap ((i : Int) + 1) = (i : Int) + 1 := by rw [IntKind.wrap_i64]; omega
            have cq : ∀ o o', ((wr.alloc o).alloc o').cell? ⟨q, 0, none⟩ = some (.int .i64 k) := fun o o' => (blk_cell (blk_alloc (blk_alloc QB.out o) o') 0).trans rfl
            by_cases hk : t = k
            · subst hk
              go_wp2
              go_roundg k2
              case measure => omega
              case rel =>
                have BB : Below wr.heap.size wr _ := below_alloc (below_alloc (Below.refl _ wr) (.cells #[.int .i64 t, .slice Au nu cu] 61)) (.cells #[.int .i64 t, .slice Au nu cu] 61)
                exact ⟨i, j + 1, rfl, rfl, by omega, by omega, ⟨(M.out.below BB).skip hx rfl⟩, ⟨(K.out.alloc _).alloc _⟩⟩
            · have hk1 : (t == k) = false := by simpa using hk
              obtain ⟨W, hW⟩ : ∃ W, (wr.alloc (.cells #[.int .i64 t, .slice Au nu cu] 61)).alloc (.cells #[.int .i64 t, .slice Au nu cu] 61) = W := ⟨_, rfl⟩
              have BB : Aside0 (Below wr.heap.size wr W) := ⟨by rw [← hW]; exact below_alloc (below_alloc (Below.refl _ wr) _) _⟩
              have MW := Aside0.mk (M.out.below BB.out)
              have fx0 := (MW.out.in_ (i * 2) (by omega)).2
              have fx1 := (MW.out.in_ (i * 2 + 1) (by omega)).2
              obtain ⟨y0, hy0⟩ := (MW.out.in_ (i * 2) (by omega)).1
              obtain ⟨y1, hy1⟩ := (MW.out.in_ (i * 2 + 1) (by omega)).1
              have a0 : W.cell? ⟨wr.heap.size, 0, none⟩ = some (.int .i64 t) := by rw [← hW]; exact (blk_cell (blk_alloc (blk_new wr _) _) 0).trans rfl
              have hsz : (wr.alloc (.cells #[.int .i64 t, .slice Au nu cu] 61)).heap.size = wr.heap.size + 1 := by simp
              have nb := blk_new (wr.alloc (.cells #[.int .i64 t, .slice Au nu cu] 61)) (.cells #[.int .i64 t, .slice Au nu cu] 61)
              rw [hsz, hW] at nb
              have b0 := (blk_cell nb 0).trans rfl
              have b1 := (blk_cell nb 1).trans rfl
              have cq' : W.cell? ⟨q, 0, none⟩ = some (.int .i64 k) := by rw [← hW]; exact cq _ _
              have a1 : W.cell? ⟨wr.heap.size, 1, none⟩ = some (.slice Au nu cu) := by rw [← hW]; exact (blk_cell (blk_alloc (blk_new wr _) _) 1).trans rfl
              go_wp2
              go_roundg k2
              case measure => omega
              case rel =>
                have KW : KS w W (fun k => k = g) := K.out.then_ (KS.of_below BB.out (fun k => k = g)) (fun k h => .inl h)
                exact ⟨i + 1, j + 1, rfl, rfl, by omega, by omega, ⟨MW.out.keep hx hk hn⟩, ⟨(KW.setCell (p := ⟨g, i * 2, none⟩) (.inl rfl) _).setCell (p := ⟨g, i * 2 + 1, none⟩) (.inl rfl) _⟩⟩
          · obtain rfl : j = L.length := by omega
            have q2 : decide ((L.length : Int) < (L.length : Int)) = false := decide_eq_false (by omega)
            obtain ⟨cur', hg', hs', ht', _⟩ := M.out.out
            have hli := M.out.len
            obtain ⟨zs, hzs, hcl⟩ := run_clearN (P := Try.prog) wr 57 61 0 _ (.int .i64 0) (.slice none 0 0) Try.underlying57 Try.zeroValue61 rfl rfl rfl g (i * 2) (cap - i) (L.length - i) 61 cur' hg' (by omega) (by omega)
            have X := Aside0.mk hg'
            have Y := Aside0.mk ht'
            clear hg' ht'
            go_wp2
            go_ret
            rw [List.take_length] at hli
            rw [hli]
            refine ⟨rfl, ⟨⟨_, setRow_heap wr g cur' _ 61 (0, 0) X.out, ?_, ?_⟩, K.out.then_ (setRow_kept wr g _) (fun k h => .inl h)⟩⟩
            · simp only [List.size_toArray, List.length_append, List.length_take, List.length_drop, Array.length_toList, hzs]
              omega
            · have h := Y.out
              rw [List.take_length] at h
              rw [← h, hli]
              simp only [List.append_assoc]
              rw [List.take_append_of_le_length (by simp; omega), List.take_take, Nat.min_self]
end Go.Proofs.Ytlfckoeolcnniaa.Net
