/- Walks of net: bytes.Clone, slices.Delete at datagrams, New, Len. -/
import Derived.Test.YtlfckoeolcnniaaProg
import Derived.Test.YtlfckoeolcnniaaWLast
import Derived.Test.YtlfckoeolcnniaaWKept
import Derived.WalkKit
import Derived.Deep.LoopGhost
import Derived.Deep.RegionLaw
import Derived.Deep.AppendLies
import Derived.Lib.Walk
import Derived.Lib.SliceRun
import Derived.Shelf.RegionOpenPlain
namespace Go.Proofs.Ytlfckoeolcnniaa.Net
open Go.RowKit Go.Proofs.YtlfckoeolcnniaaW.PrintWords Go.Proofs.YtlfckoeolcnniaaW.PrintLast
set_option linter.unusedVariables false
set_option linter.unusedSimpArgs false
/-- A call keeps all blocks but those of S; and what is no memory. -/
structure KS (w W : World) (S : Nat → Prop) : Prop where
  k : Kept w W S
  os : W.os = w.os
  tape : W.tape = w.tape
  output : W.output = w.output
theorem KS.refl (w : World) (S : Nat → Prop) : KS w w S := ⟨Kept.refl w S, rfl, rfl, rfl⟩
section
variable {w W W2 : World} {S S2 S' : Nat → Prop}
theorem KS.of_below (h : Below w.heap.size w W) (S : Nat → Prop) : KS w W S := ⟨Kept.of_below h S, h.os, h.tape, h.output⟩
theorem KS.mono (h : KS w W S) (hs : ∀ k, S k → S' k) : KS w W S' := ⟨h.k.mono hs, h.os, h.tape, h.output⟩
theorem KS.then_ (h : KS w W S) (k : KS W W2 S2) (hs : ∀ k, S2 k → S k ∨ w.heap.size ≤ k) : KS w W2 S := ⟨h.k.then_ k.k hs, k.os.trans h.os, k.tape.trans h.tape, k.output.trans h.output⟩
theorem KS.alloc (h : KS w W S) (o : Obj) : KS w (W.alloc o) S := ⟨h.k.alloc o, h.os, h.tape, h.output⟩
theorem KS.drew (h : KS w W S) : KS w W.drew S := ⟨h.k.drew, h.os, h.tape, h.output⟩
theorem KS.setCell (h : KS w W S) {p : Addr} (hp : S p.block ∨ w.heap.size ≤ p.block) (u : Value) : KS w (W.setCell p u) S :=
  ⟨h.k.setCell hp u, h.os, h.tape, h.output⟩
theorem KS.of_grown {row : Option Nat} (hg : W.grownBy W2 row) (h : KS w W S) (hr : ∀ k, row = some k → S k ∨ w.heap.size ≤ k) : KS w W2 S :=
  ⟨Kept.of_grown hg h.k hr, hg.os.trans h.os, hg.tape.trans h.tape, hg.output.trans h.output⟩
theorem KS.below {base : Nat} (h : KS w W S) (hs : ∀ k, S k → base ≤ k) (hb : base ≤ w.heap.size) : Below base w W :=
  ⟨h.os, h.tape, h.output, h.k.1, fun i hi => h.k.2 i (Nat.lt_of_lt_of_le hi hb) (fun hk => Nat.not_le_of_lt hi (hs i hk))⟩
theorem blk_ks {g : Nat} {o : Obj} (hb : W.heap[g]? = some o) (hk : KS W W2 S) (hne : ¬ S g) : W2.heap[g]? = some o := blk_kept hb hk.k hne
end
theorem info5 : (Try.prog.info? 5).map (fun i => (i.zero, i.size, i.bytes)) = some (some (.int .u8 0), 1, 1) := by kernel_rfl
theorem info61 : (Try.prog.info? 61).map (fun i => (i.zero, i.size, i.bytes)) = some (some (.agg #[.int .i64 0, .slice none 0 0]), 2, 32) := by kernel_rfl
theorem q27 : ∀ (w : World) (a : Option Addr) (n c n' c' : Nat), (binOp .eql 27 (.slice a n c) (.slice none n' c')).run Try.prog w = .ok (.bool a.isNone) w := fun w a n c n' c' => Lib.run_eql_slice_nil w _ _ a n c n' c' Try.underlying27
theorem add0 (g j : Nat) : (⟨g, 0, none⟩ : Addr).add j = ⟨g, j, none⟩ := by unfold Addr.add; split <;> simp_all
/-- A row of bytes. -/
abbrev HasB (w : World) (base : Nat) (v : Value) (bs : List Int) : Prop := w.ownsRow base 5 1 v bs.length (bs.map (Value.int .u8))
theorem own_kept {w w' : World} {base : Nat} {e : TypeId} {size : Nat} {v : Value} {n : Nat} {xs : List Value} {S : Nat → Prop} (h : w.ownsRow base e size v n xs) (hk : KS w w' S) (hn : ∀ k, v.ownBlock = some k → ¬ S k) : w'.ownsRow base e size v n xs := by
  refine ⟨h.1, h.2.imp id ?_⟩
  rintro ⟨g, cap, cur, rfl, hb, hg, rest⟩
  exact ⟨g, cap, cur, rfl, hb, blk_ks hg hk (hn g rfl), rest⟩
theorem own_mono {w : World} {base b' : Nat} {e : TypeId} {size : Nat} {v : Value} {n : Nat} {xs : List Value} (h : w.ownsRow base e size v n xs) (hb : b' ≤ base) : w.ownsRow b' e size v n xs :=
  ⟨h.1, h.2.imp id fun ⟨g, cap, cur, a, b, r⟩ => ⟨g, cap, cur, a, Nat.le_trans hb b, r⟩⟩
/-- bytes that are read, wherever they lie -/
def RdB (w : World) (v : Value) (bs : List Int) : Prop := ∃ A c, v = .slice A bs.length c ∧ (A = none → bs = [] ∧ c = 0) ∧ ∀ a, A = some a → ∀ j u, (bs.map (Value.int .u8))[j]? = some u → w.cell? (a.add j) = some u
theorem RdB.of_has {w : World} {base : Nat} {v : Value} {bs : List Int} (h : HasB w base v bs) : RdB w v bs := by
  rcases h.2 with ⟨rfl, h0⟩ | ⟨g, cap, cur, rfl, hb, hg, _⟩
  · have e0 : bs = [] := List.eq_nil_of_length_eq_zero h0
    subst e0
    exact ⟨none, 0, rfl, (fun _ => ⟨rfl, rfl⟩), (fun _ h => nomatch h)⟩
  · exact ⟨some ⟨g, 0, none⟩, cap, rfl, (fun h => nomatch h), fun a ha => by injection ha with ha; subst ha; exact h.cells rfl⟩
theorem RdB.below {w w' : World} {v : Value} {bs : List Int} (h : RdB w v bs) (hb : Below w.heap.size w w') : RdB w' v bs := by
  obtain ⟨A, c, e, h1, h2⟩ := h
  exact ⟨A, c, e, h1, fun a ha j u hu => (hb.cell (World.block_lt_of_cell? w _ (h2 a ha j u hu))).trans (h2 a ha j u hu)⟩
set_option maxHeartbeats 2000000 in
set_option maxRecDepth 100000 in
theorem clone_calls (v : Value) (bs : List Int) (w : World) (h : RdB w v bs) (hn : bs.length ≤ 1000000) :
    Calls Try.prog 35 #[v] w fun e w' => ∃ v', e = .returned v' ∧ HasB w' w.heap.size v' bs ∧ Below w.heap.size w w' := by
  have q := q27
  obtain ⟨A, cap, rfl, h0, hc⟩ := h
  cases A with
  | none =>
    obtain ⟨rfl, rfl⟩ := h0 rfl
    clear h0 hc
    go_enter Try.func35, Try.ntmps35
    go_wp2
    go_ret
    exact ⟨_, rfl, World.ownsRow_nil _ _ _ _, Below.refl _ _⟩
  | some ad =>
    obtain ⟨i0, hi, hz0, hz1, hz2⟩ := info_parts info5
    have hnews : Aside0 (∀ j u, (bs.map (Value.int .u8))[j]? = some u → w.cell? (ad.add j) = some u) := ⟨hc ad rfl⟩
    have hl : (bs.map (Value.int .u8)).length = bs.length * 1 := by simp
    clear h0 hc
    go_enter Try.func35, Try.ntmps35
    go_wp2_with (at_builtin; refine wpList_append_own _ rfl _ _ 27 rfl w.heap.size 5 i0 (.int .u8 0) 1 1 Try.underlying27 hi hz0 hz1 hz2 rfl (by decide) _ _ _ rfl (World.ownsRow_made w #[] 0 (Nat.le_refl _) (Nat.zero_le _) rfl) ad bs.length cap (bs.map (Value.int .u8)) rfl hl ?qc2 ?qc3 ?qc4 ?qc5 ?qc6 ?_)
    case qc2 => intro j u hj; exact Lib.cell?_alloc_some _ (hnews.out j u hj)
    case qc3 => intro u hu; obtain ⟨x, _, rfl⟩ := List.mem_map.1 hu; rfl
    case qc4 => unfold maxLen; omega
    case qc5 => omega
    case qc6 => simp
    intro v' w1 hown hgrow hnil
    go_wp2
    go_ret
    refine ⟨v', rfl, by simpa using hown, ?_⟩
    exact ((Below.refl _ w).alloc (Nat.le_refl _) _).grown hgrow (by simp) (by intro k hk; simp [Value.ownBlock] at hk; omega)

/-- append where there is room, onto a row from its block's begin: as one step of a region that draws. -/
theorem step_append_roomR {P : Program} {ops : Array Oper} {o : Oper} {a : Act} {w : World} {K : Act → World → Prop} {Q : Exit → Act → World → Prop} {E : Prop}
    (hg : o.guard = none) (s x : Operand) (t : TypeId) (hop : o.op = Op.call { callee := Callee.builtin Builtin.append, args := #[s, x], argTypes := #[t, t] })
    (e : TypeId) (i : TypeInfo) (size : Nat) (h1 : P.underlying t = some (.slice e)) (h2 : P.info? e = some i) (h4 : i.size = size)
    (g n cap : Nat) (cur : Array Value) (hb : w.heap[g]? = some (.cells cur e (0, 0))) (hs : a.eval s = .slice (some ⟨g, 0, none⟩) n cap)
    (ad : Addr) (m c : Nat) (news : List Value) (hx : a.eval x = .slice (some ad) m c) (hn : news.length = m * size) (hc : ∀ j u, news[j]? = some u → w.cell? (ad.add j) = some u) (h1c : ∀ u ∈ news, u.oneCell' = true)
    (hroom : n + m ≤ cap) (hfit : n * size + news.length ≤ cur.size)
    (hK : K (a.put o.dst (.slice (some ⟨g, 0, none⟩) (n + m) cap)) (w.setRow g (cur.toList.take (n * size) ++ news ++ cur.toList.drop (n * size + news.length)).toArray)) :
    if Region.wanted o (yielded ops a.tmps) = true then Oper.wp P o a w K Q else E := by
  have hw : Region.wanted o (yielded ops a.tmps) = true := by simp [Region.wanted, hg]
  rw [if_pos hw]
  subst h4
  have hrun := run_append_room (P := P) w t o.type e i h1 h2 g n cap cur hb ad m c news hn hc h1c hroom hfit
  unfold Oper.wp execOp
  simp only [hop, resolve, invoke, builtin, Sem.run_bind, Sem.run_pure, Result.andThen_ok, List.map_toArray, List.map_cons, List.map_nil, hs, hx, hrun]
  exact hK
/-- clear of one element of two cells -/
theorem run_clear2 {P : Program} (w : World) (t e ty : TypeId) (z : Value) (z0 z1 : Value) (ht : P.underlying t = some (.slice e)) (hv : ∀ w, (zeroValue e).run P w = .ok z w) (hz : z.cells = #[z0, z1]) (h0 : z0.oneCell' = true) (h1 : z1.oneCell' = true) (g o c : Nat)
    (te : TypeId) (cur : Array Value) (hg : w.heap[g]? = some (.cells cur te (0, 0))) (hfit : o + 2 ≤ cur.size) :
    (Builtin.clear_ #[t] ty #[.slice (some ⟨g, o, none⟩) 1 c]).run P w = .ok (.tuple #[]) (w.setRow g (cur.toList.take o ++ [z0, z1] ++ cur.toList.drop (o + 2)).toArray) := by
  have hzc : (Builtin.zeroCells z.cells 1).toList = [z0, z1] := by
    rw [hz]
    simp [Builtin.zeroCells, List.range_succ]
  have hst := run_storeCells_at P g o te [z0, z1] 0 cur w hg (by simpa using hfit) (by intro v hv'; simp at hv'; rcases hv' with rfl | rfl <;> assumption)
  simp only [Nat.add_zero, List.length_cons, List.length_nil] at hst
  simp [Builtin.clear_, run_underlying ht, hv, hzc, hst]
theorem setRow_kept (w : World) (g : Nat) (cs : Array Value) : KS w (w.setRow g cs) (fun k => k = g) :=
  ⟨⟨by simp [World.setRow], fun i hi hn => setRow_other w g i cs hn⟩, rfl, rfl, rfl⟩
set_option maxHeartbeats 4000000 in
set_option maxRecDepth 1000000 in
/-- slices.Delete of one element, at datagrams. -/
theorem delete_calls (g n cap i : Nat) (cur : Array Value) (w : World) (hb : w.heap[g]? = some (.cells cur 61 (0, 0))) (hs : cur.size = cap * 2) (hn : n ≤ cap) (hm : cap ≤ maxLen) (hi : i < n) (h1 : ∀ u ∈ cur.toList.take (n * 2), u.oneCell' = true) :
    Calls Try.prog 36 #[.slice (some ⟨g, 0, none⟩) n cap, .int .i64 i, .int .i64 (i + 1 : Nat)] w fun e w' => e = .returned (.slice (some ⟨g, 0, none⟩) (n - 1) cap) ∧
      (∃ cur', w'.heap[g]? = some (.cells cur' 61 (0, 0)) ∧ cur'.size = cap * 2 ∧ cur'.toList.take ((n - 1) * 2) = cur.toList.take (i * 2) ++ (cur.toList.take (n * 2)).drop ((i + 1) * 2)) ∧ KS w w' (fun k => k = g) := by
  obtain ⟨i0, hi0, hz0, hz1, hz2⟩ := info_parts info61
  have hm' : cap ≤ 9223372036854775807 := by simp only [maxLen] at hm; omega
  obtain ⟨news, hnews⟩ : ∃ news, news = (cur.toList.take (n * 2)).drop ((i + 1) * 2) := ⟨_, rfl⟩
  have hlen : news.length = (n - (i + 1)) * 2 := by rw [hnews]; simp; omega
  obtain ⟨A, hA, hsrc⟩ : ∃ A : Addr, (if cap = i + 1 then some (⟨g, 0, none⟩ : Addr) else some ⟨g, (i + 1) * 2, none⟩) = some A ∧ Hid (∀ t u, news[t]? = some u → w.drew.cell? (A.add t) = some u) := by
    by_cases h : cap = i + 1
    · refine ⟨⟨g, 0, none⟩, by simp [h], fun t u hu => ?_⟩
      have h0 : news.length = 0 := by rw [hlen]; omega
      rw [List.length_eq_zero_iff.1 h0] at hu
      simp at hu
    · refine ⟨⟨g, (i + 1) * 2, none⟩, by simp [h], fun t u hu => ?_⟩
      have ht : t < (n - (i + 1)) * 2 := by
        have := (List.getElem?_eq_some_iff.1 hu).1
        rwa [hlen] at this
      rw [Addr.add_lit]
      show w.cell? _ = _
      rw [blk_cell hb]
      rw [hnews, List.getElem?_drop, List.getElem?_take, if_pos (by omega)] at hu
      simpa using hu
  obtain ⟨cur1, hcur1⟩ : ∃ cur1, cur1 = (cur.toList.take (i * 2) ++ news ++ cur.toList.drop (i * 2 + news.length)).toArray := ⟨_, rfl⟩
  have hsz1 : cur1.size = cap * 2 := by rw [hcur1]; simp [hlen, hs]; omega
  have s2 : Hid (∀ u ∈ news, u.oneCell' = true) := by intro u hu; rw [hnews] at hu; exact h1 u (List.mem_of_mem_drop hu)
  obtain ⟨W1, hW1⟩ : ∃ W1, W1 = w.drew.setRow g cur1 := ⟨_, rfl⟩
  have hb1 : W1.heap[g]? = some (.cells cur1 61 (0, 0)) := by rw [hW1]; exact setRow_heap w.drew g cur cur1 61 (0, 0) hb
  obtain ⟨W2, hW2⟩ : ∃ W2, W2 = W1.setRow g (cur1.toList.take ((n - 1) * 2) ++ [Value.int .i64 0, Value.slice none 0 0] ++ cur1.toList.drop ((n - 1) * 2 + 2)).toArray := ⟨_, rfl⟩
  have hcl : ∀ ty, (Builtin.clear_ #[57] ty #[.slice (some ⟨g, (i + (n - (i + 1))) * 2, none⟩) (n - (i + (n - (i + 1)))) (cap - (i + (n - (i + 1))))]).run Try.prog W1 = .ok (.tuple #[]) W2 := fun ty => by
    rw [show n - (i + (n - (i + 1))) = 1 by omega, show i + (n - (i + 1)) = n - 1 by omega, hW2]
    exact run_clear2 (P := Try.prog) W1 57 61 ty _ (.int .i64 0) (.slice none 0 0) Try.underlying57 Try.zeroValue61 rfl rfl rfl g ((n - 1) * 2) (cap - (n - 1)) 61 cur1 hb1 (by omega)
  have X : Aside (cur1 = (cur.toList.take (i * 2) ++ news ++ cur.toList.drop (i * 2 + news.length)).toArray ∧ news = (cur.toList.take (n * 2)).drop ((i + 1) * 2) ∧ news.length = (n - (i + 1)) * 2 ∧ cur1.size = cap * 2 ∧ W1.heap[g]? = some (.cells cur1 61 (0, 0)) ∧ W1 = w.drew.setRow g cur1 ∧ W2 = W1.setRow g (cur1.toList.take ((n - 1) * 2) ++ [Value.int .i64 0, Value.slice none 0 0] ++ cur1.toList.drop ((n - 1) * 2 + 2)).toArray ∧ cur.size = cap * 2) := ⟨hcur1, hnews, hlen, hsz1, hb1, hW1, hW2, hs⟩
  have hW : Hid (W1 = w.drew.setRow g (cur.toList.take (i * 2) ++ news ++ cur.toList.drop (i * 2 + news.length)).toArray) := by show W1 = _; rw [hW1, hcur1]
  have Y : Aside (w.drew.heap[g]? = some (.cells cur 61 (0, 0))) := hb
  have Z1 : Hid (i * 2 + news.length ≤ cur.size) := by show i * 2 + news.length ≤ cur.size; omega
  have Z2 : Hid (news.length = (n - (i + 1)) * 2) := hlen
  have hic : i ≤ cap := by omega
  have e1 : ((i + 1 : Nat) : Int) = (i : Int) + 1 := by omega
  have hp0 : (0 : Int) ≤ (i : Int) + 1 := by omega
  have hp1 : (i : Int) + 1 ≤ (n : Int) := by omega
  clear hW1 hW2 hb1 hb hcur1 hnews hlen hsz1 h1 hs
  go_enter Try.func36, Try.ntmps36
  go_wp2_with fail
  go_region_law (refine step_append_roomR rfl (.tmp 22) (.tmp 25) 57 rfl 61 i0 2 Try.underlying57 hi0 hz1 g i cap cur Y.out (by simp [Act.eval, Act.put]) A (n - (i + 1)) (cap - (i + 1)) news (by simp [Act.eval, Act.put]) Z2.out hsrc.out s2.out (by omega) Z1.out ?_; rw [← hW.out])
  go_wp2
  go_ret
  obtain ⟨hcur1, hnews, hlen, hsz1, hb1, hW1, hW2, hs⟩ := X.out
  refine ⟨by rw [show i + (n - (i + 1)) = n - 1 by omega]; rfl, ⟨_, by rw [hW2]; exact setRow_heap W1 g cur1 _ 61 (0, 0) hb1, ?_, ?_⟩, ?_⟩
  · have hl1 : cur1.toList.length = cap * 2 := by simpa using hsz1
    simp only [List.size_toArray, List.length_append, List.length_take, List.length_drop, List.length_cons, List.length_nil]
    omega
  · have hl1 : cur1.toList.length = cap * 2 := by simpa using hsz1
    rw [List.append_assoc, List.take_left' (by rw [List.length_take]; omega), hcur1, ← hnews]
    rw [List.take_left' (by rw [List.length_append, List.length_take, hlen]; have : cur.toList.length = cap * 2 := by simpa using hs
                            omega)]
  · have k1 : KS w W1 (fun k => k = g) := by rw [hW1]; exact (KS.drew (KS.refl w _)).then_ (setRow_kept w.drew g cur1) (fun k h => .inl h)
    rw [hW2]
    exact k1.then_ (setRow_kept W1 g _) (fun k h => .inl h)
end Go.Proofs.Ytlfckoeolcnniaa.Net
