/- The walk of frame.Scan. -/
import Derived.Test.YtlfckoeolcnniaaFrE
namespace Go.Proofs.Ytlfckoeolcnniaa.Net
open Go.RowKit Go.Proofs.YtlfckoeolcnniaaW.PrintWords Go.Proofs.YtlfckoeolcnniaaW.PrintLast Go.Proofs.YtlfckoeolcnniaaW.PrintMore
set_option linter.unusedVariables false
set_option linter.unusedSimpArgs false
theorem info27 : (Try.prog.info? 27).map (fun i => (i.zero, i.size, i.bytes)) = some (some (.slice none 0 0), 1, 24) := by kernel_rfl
/-- the record at a place -/
def rec1 (bs : List Int) (a : Nat) : Option (List Int) :=
  let n := un ((bs.drop a).take 4)
  if a + 8 ≤ bs.length ∧ n ≤ 4194304 ∧ a + 8 + n ≤ bs.length ∧ crc ((bs.drop a).take 4 ++ (bs.drop (a + 8)).take n) = un ((bs.drop (a + 4)).take 4) then some ((bs.drop (a + 8)).take n) else none
/-- the first records -/
def itr (bs : List Int) : Nat → Option (List (List Int) × Nat)
  | 0 => some ([], 0)
  | k + 1 => (itr bs k).bind fun x => (rec1 bs x.2).map fun r => (x.1 ++ [r], x.2 + 8 + r.length)
/-- all records that are whole -/
def Scanned (bs : List Int) (L : List (List Int)) (a : Nat) : Prop := itr bs L.length = some (L, a) ∧ rec1 bs a = none
theorem itr_lt (bs : List Int) : ∀ (k j : Nat), j ≤ k → (itr bs k).isSome → (itr bs j).isSome
  | 0, j, h, hs => by rw [show j = 0 by omega]; exact hs
  | k + 1, j, h, hs => by
    rcases Nat.lt_or_ge j (k + 1) with hj | hj
    · refine itr_lt bs k j (by omega) ?_
      cases h0 : itr bs k with
      | none => rw [itr, h0] at hs; simp at hs
      | some x => rfl
    · rw [show j = k + 1 by omega]; exact hs
theorem Scanned.uniq {bs : List Int} {L M : List (List Int)} {a b : Nat} (h : Scanned bs L a) (k : Scanned bs M b) : L = M ∧ a = b := by
  have key : ∀ {L M : List (List Int)} {a b : Nat}, Scanned bs L a → Scanned bs M b → ¬ L.length < M.length := by
    intro L M a b h k hlt
    have h1 : itr bs (L.length + 1) = none := by rw [itr, h.1]; simp [h.2]
    have h2 := itr_lt bs M.length (L.length + 1) (by omega) (by rw [k.1]; rfl)
    rw [h1] at h2
    simp at h2
  have e : L.length = M.length := by have := key h k; have := key k h; omega
  have h1 := h.1
  rw [e, k.1] at h1
  injection h1 with h1
  injection h1 with h1 h2
  exact ⟨h1.symm, h2.symm⟩
/-- a row of own rows of bytes -/
structure Rws (w : World) (base : Nat) (v : Value) (G : List (Value × List Int)) : Prop where
  row : w.ownsRow base 27 1 v G.length (G.map (·.1))
  els : ∀ x ∈ G, HasB w base x.1 x.2
theorem Rws.keep {w w' : World} {base : Nat} {v : Value} {G : List (Value × List Int)} (h : Rws w base v G) {S : Nat → Prop} (hk : KS w w' S) (hS : ∀ k, S k → (∃ cs t, w.heap[k]? = some (.cells cs t (0, 0)) ∧ t ≠ 5 ∧ t ≠ 27) ∨ w.heap.size ≤ k) : Rws w' base v G := by
  have ne : ∀ {u : Value} {e : TypeId} {n : Nat} {xs : List Value}, (e = 5 ∨ e = 27) → w.ownsRow base e 1 u n xs → ∀ k, u.ownBlock = some k → ¬ S k := by
    intro u e n xs he h1 k hk1 hs
    obtain ⟨_, cs, h2⟩ := own_blk h1 hk1
    rcases hS k hs with ⟨cs', t, h3, n1, n2⟩ | h3
    · exact blk_ne h2 h3 (by rcases he with rfl | rfl; exact fun e => n1 e.symm; exact fun e => n2 e.symm) rfl
    · have := blk_lt h2; omega
  exact ⟨own_kept h.row hk (ne (.inr rfl) h.row), fun x hx => own_kept (h.els x hx) hk (ne (.inl rfl) (h.els x hx))⟩
theorem Rws.below {w w' : World} {base : Nat} {v : Value} {G : List (Value × List Int)} (h : Rws w base v G) (hb : Below w.heap.size w w') : Rws w' base v G := h.keep (KS.of_below hb (fun _ => False)) (fun k h => h.elim)
theorem Rws.rdr {w w' : World} {base r : Nat} {v : Value} {G : List (Value × List Int)} {cs : Array Value} (h : Rws w base v G) (hX : w.heap[r]? = some (.cells cs 73 (0, 0))) (hk : KS w w' (fun i => i = r)) : Rws w' base v G :=
  h.keep hk (fun k hk => by rw [hk]; exact .inl ⟨_, _, hX, by decide, by decide⟩)
theorem rec1_len {bs x : List Int} {a : Nat} (h : rec1 bs a = some x) : a + 8 + x.length ≤ bs.length ∧ x.length ≤ 4194304 := by
  unfold rec1 at h
  simp only at h
  split at h
  · rename_i hc
    injection h with h
    rw [← h, List.length_take, List.length_drop]
    omega
  · cases h
theorem own_empty (w : World) : (w.alloc (.cells #[] 5)).ownsRow w.heap.size 5 1 (.slice (some ⟨w.heap.size, 0, none⟩) 0 0) ([] : List Int).length (nums .u8 []) := own_lit w w.heap.size 5 .u8 [] (Nat.le_refl _) (by decide)
theorem itr_pos (bs : List Int) : ∀ (k : Nat) {L : List (List Int)} {a : Nat}, itr bs k = some (L, a) → L.length = k ∧ 8 * k ≤ a
  | 0, L, a, h => by injection h with h; injection h with h1 h2; subst h1; subst h2; exact ⟨rfl, by omega⟩
  | k + 1, L, a, h => by
    rw [itr] at h
    cases h0 : itr bs k with
    | none => rw [h0] at h; simp at h
    | some x =>
      obtain ⟨L', a'⟩ := x
      rw [h0, Option.bind_some] at h
      cases h1 : rec1 bs a' with
      | none => simp only [h1] at h; simp at h
      | some r =>
        simp only [h1, Option.map_some, Option.some.injEq, Prod.mk.injEq] at h
        obtain ⟨i1, i2⟩ := itr_pos bs k h0
        rw [← h.1, ← h.2, List.length_append, i1]
        exact ⟨rfl, by omega⟩
theorem Rws.row_ne {w : World} {base r : Nat} {v : Value} {G : List (Value × List Int)} {cs : Array Value} (h : Rws w base v G) (hX : w.heap[r]? = some (.cells cs 73 (0, 0))) : v.ownBlock ≠ some r := fun e => by
  obtain ⟨_, cs', h2⟩ := own_blk h.row e
  exact blk_ne h2 hX (by decide) rfl
theorem Rws.add {w w' : World} {base : Nat} {v u v' : Value} {G : List (Value × List Int)} {x : List Int} (h : Rws w base v G) (hu : HasB w base u x) (hr : w'.ownsRow base 27 1 v' (G.map (·.1) ++ [u]).length (G.map (·.1) ++ [u])) (hg : w.grownBy w' v.ownBlock) : Rws w' base v' (G ++ [(u, x)]) := by
  have hk : KS w w' (fun k => v.ownBlock = some k) := KS.of_grown hg (KS.refl w _) (fun k hk => .inl hk)
  have ne : ∀ {y : Value} {bs : List Int}, HasB w base y bs → HasB w' base y bs := fun hy => own_kept hy hk (fun k h1 h2 => by
    obtain ⟨_, cs, a1⟩ := own_blk hy h1
    obtain ⟨_, cs', a2⟩ := own_blk h.row h2
    exact blk_ne a1 a2 (by decide) rfl)
  refine ⟨?_, fun y hy => ?_⟩
  · rw [List.map_append, List.length_append]
    rw [List.length_append, List.length_map] at hr
    exact hr
  · rcases List.mem_append.1 hy with hy | hy
    · exact ne (h.els y hy)
    · simp at hy
      subst hy
      exact ne hu
theorem rec1_short {bs : List Int} {a : Nat} (h : bs.length < a + 8) : rec1 bs a = none := by
  unfold rec1
  simp only
  rw [if_neg (by omega)]
theorem rec1_big {bs : List Int} {a : Nat} (h : 4194304 < un ((bs.drop a).take 4)) : rec1 bs a = none := by
  unfold rec1
  simp only
  rw [if_neg (by omega)]
theorem rec1_cut {bs : List Int} {a : Nat} (h : bs.length < a + 8 + un ((bs.drop a).take 4)) : rec1 bs a = none := by
  unfold rec1
  simp only
  rw [if_neg (by omega)]
theorem rec1_other {bs : List Int} {a n : Nat} (hn : un ((bs.drop a).take 4) = n) (h : crc ((bs.drop a).take 4 ++ (bs.drop (a + 8)).take n) ≠ un ((bs.drop (a + 4)).take 4)) : rec1 bs a = none := by
  unfold rec1
  simp only [hn]
  rw [if_neg (fun hh => h hh.2.2.2)]
theorem rec1_some {bs : List Int} {a n : Nat} (h8 : a + 8 ≤ bs.length) (hn : un ((bs.drop a).take 4) = n) (h1 : n ≤ 4194304) (h2 : a + 8 + n ≤ bs.length) (h : crc ((bs.drop a).take 4 ++ (bs.drop (a + 8)).take n) = un ((bs.drop (a + 4)).take 4)) : rec1 bs a = some ((bs.drop (a + 8)).take n) := by
  unfold rec1
  simp only [hn]
  rw [if_pos ⟨h8, h1, h2, h⟩]
theorem take4_ok (w w0 : World) (r n c at_ : Nat) (A : Option Addr) (bs : List Int) (h : Rdr w r (.slice A n c) at_ false) (hB : RdB w0 (.slice A n c) bs) (hk : at_ + 4 ≤ n) (hn : n ≤ 1000000000) (hc : n ≤ c) :
    Calls Try.prog 43 #[.pointer (some ⟨r, 0, none⟩), .int .i64 4] w fun e w' => ∃ v', e = .returned v' ∧ (RdB w0 v' ((bs.drop at_).take 4) ∧ CapOk v') ∧ Rdr w' r (.slice A n c) (at_ + 4) false ∧ KS w w' (fun i => i = r) := take_ok w w0 r n c at_ 4 A bs h hB hk hn hc
theorem take4_no (w : World) (r n c at_ : Nat) (A : Option Addr) (h : Rdr w r (.slice A n c) at_ false) (hk : n < at_ + 4) (ha : at_ ≤ n) (hn : n ≤ 1000000000) :
    Calls Try.prog 43 #[.pointer (some ⟨r, 0, none⟩), .int .i64 4] w fun e w' => e = .returned (.slice none 0 0) ∧ Rdr w' r (.slice A n c) at_ true ∧ KS w w' (fun i => i = r) := take_no w r n c at_ A 4 h (by omega) ha hn
theorem num4_ok (w w0 : World) (r n c at_ : Nat) (A : Option Addr) (bs : List Int) (h : Rdr w r (.slice A n c) at_ false) (hB : RdB w0 (.slice A n c) bs) (hb : bytes bs) (hk : at_ + 4 ≤ n) (hn : n ≤ 1000000000) (hc : n ≤ c) (hw : Below w0.heap.size w0 w) (hr : w0.heap.size ≤ r) :
    Calls Try.prog 44 #[.pointer (some ⟨r, 0, none⟩), .int .i64 4] w fun e w' => e = .returned (.int .u64 (un ((bs.drop at_).take 4) : Nat)) ∧ Rdr w' r (.slice A n c) (at_ + 4) false ∧ KS w w' (fun i => i = r) := num_ok w w0 r n c at_ 4 A bs h hB hb hk hn hc (by decide) hw hr
theorem num4_no (w : World) (r n c at_ : Nat) (b : Bool) (A : Option Addr) (h : Rdr w r (.slice A n c) at_ b) (hk : b = true ∨ n < at_ + 4) (ha : at_ ≤ n) (hn : n ≤ 1000000000) :
    Calls Try.prog 44 #[.pointer (some ⟨r, 0, none⟩), .int .i64 4] w fun e w' => e = .returned (.int .u64 0) ∧ Rdr w' r (.slice A n c) at_ true ∧ KS w w' (fun i => i = r) := num_no w r n c at_ b A 4 h hk ha hn
theorem numl_ok (w w0 : World) (A : Option Addr) (c : Nat) (l : List Int) (hV : RdB w0 (.slice A 4 c) l) (hb : bytes l) (hl : l.length = 4) (hc : 4 ≤ c) (hw : Below w0.heap.size w0 w) :
    Calls Try.prog 44 #[.pointer (some ⟨w.heap.size, 0, none⟩), .int .i64 4] (w.alloc (.cells #[.slice A 4 c, .int .i64 0, .bool false] 73)) fun e w' => e = .returned (.int .u64 (un l : Nat)) ∧ KS (w.alloc (.cells #[.slice A 4 c, .int .i64 0, .bool false] 73)) w' (fun i => i = w.heap.size) := by
  refine (num4_ok _ w0 w.heap.size 4 c 0 A l (blk_new w _) hV hb (by omega) (by omega) hc (below_alloc hw _) hw.size).mono ?_
  rintro e w' ⟨rfl, _, hk⟩
  exact ⟨by rw [List.drop_zero, ← hl, List.take_length], hk⟩
theorem numl_no (w : World) :
    Calls Try.prog 44 #[.pointer (some ⟨w.heap.size, 0, none⟩), .int .i64 4] (w.alloc (.cells #[.slice none 0 0, .int .i64 0, .bool false] 73)) fun e w' => e = .returned (.int .u64 0) ∧ KS (w.alloc (.cells #[.slice none 0 0, .int .i64 0, .bool false] 73)) w' (fun i => i = w.heap.size) :=
  (num4_no _ w.heap.size 0 0 0 false none (blk_new w _) (.inr (by omega)) (by omega) (by omega)).mono fun e w' h => ⟨h.1, h.2.2⟩
set_option maxHeartbeats 16000000 in
set_option maxRecDepth 100000 in
theorem scan_calls (w : World) (A : Option Addr) (c : Nat) (bs : List Int) (h : RdB w (.slice A bs.length c) bs) (hb : bytes bs) (hl : bs.length ≤ 100000000) (hc : bs.length ≤ c) :
    Calls Try.prog 24 #[.slice A bs.length c] w fun e w' => ∃ v G a, e = .returned (.tuple #[v, .int .i64 (a : Nat)]) ∧ Rws w' w.heap.size v G ∧ Scanned bs (G.map (·.2)) a ∧ Below w.heap.size w w' := by
  have F := Aside0.mk h
  have FB := Aside0.mk hb
  obtain ⟨i0, hi, hz0, hz1, hz2⟩ := info_parts info27
  clear h hb
  go_enter Try.func24, Try.ntmps24
  go_wp2
  go_loopg [4, 6] (bs.length + 2) (fun kq v4 v6 w' => ∃ (G : List (Value × List Int)) (at_ : Nat), v6 = .int .i64 (at_ : Nat) ∧ at_ ≤ bs.length ∧ bs.length - at_ < kq ∧ Aside0 (Rws w' w.heap.size v4 G) ∧ Aside0 (itr bs G.length = some (G.map (·.2), at_)) ∧ Aside0 (Rdr w' w.heap.size (.slice A bs.length c) at_ false) ∧ Aside0 (Below w.heap.size w w'))
  case atStart => exact ⟨[], 0, rfl, Nat.zero_le _, by omega, ⟨⟨own_nil _ _ _ _, by simp⟩⟩, ⟨rfl⟩, ⟨blk_new w _⟩, ⟨below_alloc (Below.refl _ _) _⟩⟩
  case round =>
    obtain ⟨G, at_, rfl, hat, hk, R0, I, X0, B0⟩ := hrel
    have GL : Aside0 (8 * G.length ≤ at_) := ⟨(itr_pos bs _ I.out).2⟩
    obtain ⟨A4, c4, rfl⟩ := own_slice R0.out.row
    cases gk with
    | zero => omega
    | succ k2 =>
      by_cases k1 : bs.length < at_ + 4
      · -- nothing is left
        have NB := Aside0.mk (rec1_short (bs := bs) (a := at_) (by omega))
        go_wp2_with (first
          | ((with_reducible refine gate_callee (f := 43) rfl ?_); refine goesL_ (some 15) rfl rfl Try.func43 (by kernel_rfl) rfl #[.pointer (some ⟨w.heap.size, 0, none⟩), .int .i64 4] rfl (by (try simp only [List.map_toArray, List.map_cons, List.map_nil]); first | done | rfl) ?_; (with_reducible refine (take4_no _ w.heap.size bs.length c at_ A X0.out (by omega) (by omega) (by omega)).mono ?_); rintro e w1 ⟨rfl, hX, hK⟩; refine ⟨_, rfl, ?_⟩; have X1 := Aside0.mk hX; have B1 := Aside0.mk (below_ks B0.out hK (fun i hi => by rw [hi]; exact (Nat.le_refl _))); have R1 := Aside0.mk (R0.out.rdr X0.out hK); clear hX hK)
          | ((with_reducible refine gate_callee (f := 44) rfl ?_); refine goesL_ (some 17) rfl rfl Try.func44 (by kernel_rfl) rfl #[.pointer (some ⟨w.heap.size, 0, none⟩), .int .i64 4] rfl (by (try simp only [List.map_toArray, List.map_cons, List.map_nil]); first | done | rfl) ?_; (with_reducible refine (num4_no _ w.heap.size bs.length c at_ true A X1.out (by first | exact .inl rfl | exact .inr (by omega)) (by omega) (by omega)).mono ?_); rintro e w2 ⟨rfl, hX, hK⟩; refine ⟨_, rfl, ?_⟩; have X2 := Aside0.mk hX; have B2 := Aside0.mk (below_ks B1.out hK (fun i hi => by rw [hi]; exact (Nat.le_refl _))); have R2 := Aside0.mk (R1.out.rdr X1.out hK); clear hX hK)
          | ((with_reducible refine gate_callee (f := 44) rfl ?_); refine goesL_ (some 21) rfl rfl Try.func44 (by kernel_rfl) rfl #[.pointer (some ⟨w2.heap.size, 0, none⟩), .int .i64 4] rfl (by (try simp only [List.map_toArray, List.map_cons, List.map_nil]); first | done | rfl) ?_; (with_reducible refine (numl_no w2).mono ?_); rintro e w3 ⟨rfl, hK⟩; refine ⟨_, rfl, ?_⟩; have B3 := Aside0.mk (below_ks (below_alloc B2.out _) hK (fun i hi => by rw [hi]; exact B2.out.size)); have R3 := Aside0.mk ((R2.out.below (below_alloc (Below.refl _ _) _)).rdr (blk_new w2 _) hK); have X3 := Aside0.mk (blk_ks (blk_alloc X2.out _) hK (fun e => by have := blk_lt X2.out; omega)); have z2 := (blk_cell X3.out 2).trans rfl; have z1 := (blk_cell X3.out 1).trans rfl; clear hK))
        go_ret2
        exact ⟨_, G, at_, rfl, R3.out, ⟨by rw [List.length_map]; exact I.out, NB.out⟩, B3.out⟩
      by_cases k2' : bs.length < at_ + 8
      · have NB := Aside0.mk (rec1_short (bs := bs) (a := at_) (by omega))
        obtain ⟨n, hn⟩ : ∃ n, un ((bs.drop at_).take 4) = n := ⟨_, rfl⟩
        have HN := Aside0.mk hn
        clear hn
        go_wp2_with (first
          | ((with_reducible refine gate_callee (f := 43) rfl ?_); refine goesL_ (some 15) rfl rfl Try.func43 (by kernel_rfl) rfl #[.pointer (some ⟨w.heap.size, 0, none⟩), .int .i64 4] rfl (by (try simp only [List.map_toArray, List.map_cons, List.map_nil]); first | done | rfl) ?_; (with_reducible refine (take4_ok _ w w.heap.size bs.length c at_ A bs X0.out F.out (by omega) (by omega) (by omega)).mono ?_); rintro e w1 ⟨v1, rfl, ⟨hV, hCap⟩, hX, hK⟩; refine ⟨_, rfl, ?_⟩; have V1 := Aside0.mk hV; have h4 : ((bs.drop at_).take 4).length = 4 := (by rw [List.length_take, List.length_drop]; omega); obtain ⟨A1, c1, rfl, hc1⟩ : ∃ A c, v1 = .slice A 4 c ∧ 4 ≤ c := (by obtain ⟨A, c, e, _⟩ := hV; obtain ⟨A', n', c', e', hcc⟩ := hCap; rw [h4] at e; rw [e] at e'; injection e' with _ e2 e3; exact ⟨A, c, e, by omega⟩); clear hV h4 hCap; have X1 := Aside0.mk hX; have B1 := Aside0.mk (below_ks B0.out hK (fun i hi => by rw [hi]; exact (Nat.le_refl _))); have R1 := Aside0.mk (R0.out.rdr X0.out hK); clear hX hK)
          | ((with_reducible refine gate_callee (f := 44) rfl ?_); refine goesL_ (some 17) rfl rfl Try.func44 (by kernel_rfl) rfl #[.pointer (some ⟨w.heap.size, 0, none⟩), .int .i64 4] rfl (by (try simp only [List.map_toArray, List.map_cons, List.map_nil]); first | done | rfl) ?_; (with_reducible refine (num4_no _ w.heap.size bs.length c (at_ + 4) false A X1.out (by first | exact .inl rfl | exact .inr (by omega)) (by omega) (by omega)).mono ?_); rintro e w2 ⟨rfl, hX, hK⟩; refine ⟨_, rfl, ?_⟩; have X2 := Aside0.mk hX; have B2 := Aside0.mk (below_ks B1.out hK (fun i hi => by rw [hi]; exact (Nat.le_refl _))); have R2 := Aside0.mk (R1.out.rdr X1.out hK); clear hX hK)
          | ((with_reducible refine gate_callee (f := 44) rfl ?_); refine goesL_ (some 21) rfl rfl Try.func44 (by kernel_rfl) rfl #[.pointer (some ⟨w2.heap.size, 0, none⟩), .int .i64 4] rfl (by (try simp only [List.map_toArray, List.map_cons, List.map_nil]); first | done | rfl) ?_; (with_reducible refine (numl_ok w2 w A1 c1 ((bs.drop at_).take 4) V1.out (bytes_take (bytes_drop FB.out _) _) (by rw [List.length_take, List.length_drop]; omega) hc1 B2.out).mono ?_); rintro e w3 ⟨rfl, hK⟩; rw [HN.out]; refine ⟨_, rfl, ?_⟩; have B3 := Aside0.mk (below_ks (below_alloc B2.out _) hK (fun i hi => by rw [hi]; exact B2.out.size)); have R3 := Aside0.mk ((R2.out.below (below_alloc (Below.refl _ _) _)).rdr (blk_new w2 _) hK); have X3 := Aside0.mk (blk_ks (blk_alloc X2.out _) hK (fun e => by have := blk_lt X2.out; omega)); have z2 := (blk_cell X3.out 2).trans rfl; have z1 := (blk_cell X3.out 1).trans rfl; clear hK))
        go_ret2
        exact ⟨_, G, at_, rfl, R3.out, ⟨by rw [List.length_map]; exact I.out, NB.out⟩, B3.out⟩
      obtain ⟨n, hn4⟩ : ∃ n, un ((bs.drop at_).take 4) = n := ⟨_, rfl⟩
      have hnl : n < 4294967296 := by
        have := un_lt ((bs.drop at_).take 4) (bytes_take (bytes_drop FB.out _) _)
        rw [hn4, List.length_take, List.length_drop, Nat.min_eq_left (by omega)] at this
        exact this
      obtain ⟨s, hs⟩ : ∃ s, un ((bs.drop (at_ + 4)).take 4) = s := ⟨_, rfl⟩
      have HN := Aside0.mk hn4
      have HN4 := Aside0.mk hn4
      have HS := Aside0.mk hs
      clear hn4 hs
      by_cases k3 : 4194304 < n
      · have NB := Aside0.mk (rec1_big (bs := bs) (a := at_) (by rw [HN4.out]; exact k3))
        have q1 : decide ((4194304 : Int) < (n : Int)) = true := decide_eq_true (by omega)
        go_wp2_with (first
          | ((with_reducible refine gate_callee (f := 43) rfl ?_); refine goesL_ (some 15) rfl rfl Try.func43 (by kernel_rfl) rfl #[.pointer (some ⟨w.heap.size, 0, none⟩), .int .i64 4] rfl (by (try simp only [List.map_toArray, List.map_cons, List.map_nil]); first | done | rfl) ?_; (with_reducible refine (take4_ok _ w w.heap.size bs.length c at_ A bs X0.out F.out (by omega) (by omega) (by omega)).mono ?_); rintro e w1 ⟨v1, rfl, ⟨hV, hCap⟩, hX, hK⟩; refine ⟨_, rfl, ?_⟩; have V1 := Aside0.mk hV; have h4 : ((bs.drop at_).take 4).length = 4 := (by rw [List.length_take, List.length_drop]; omega); obtain ⟨A1, c1, rfl, hc1⟩ : ∃ A c, v1 = .slice A 4 c ∧ 4 ≤ c := (by obtain ⟨A, c, e, _⟩ := hV; obtain ⟨A', n', c', e', hcc⟩ := hCap; rw [h4] at e; rw [e] at e'; injection e' with _ e2 e3; exact ⟨A, c, e, by omega⟩); clear hV h4 hCap; have X1 := Aside0.mk hX; have B1 := Aside0.mk (below_ks B0.out hK (fun i hi => by rw [hi]; exact (Nat.le_refl _))); have R1 := Aside0.mk (R0.out.rdr X0.out hK); clear hX hK)
          | ((with_reducible refine gate_callee (f := 44) rfl ?_); refine goesL_ (some 17) rfl rfl Try.func44 (by kernel_rfl) rfl #[.pointer (some ⟨w.heap.size, 0, none⟩), .int .i64 4] rfl (by (try simp only [List.map_toArray, List.map_cons, List.map_nil]); first | done | rfl) ?_; (with_reducible refine (num4_ok _ w w.heap.size bs.length c (at_ + 4) A bs X1.out F.out FB.out (by omega) (by omega) (by omega) B1.out (Nat.le_refl _)).mono ?_); rintro e w2 ⟨rfl, hX, hK⟩; rw [HS.out]; refine ⟨_, rfl, ?_⟩; have X2 := Aside0.mk hX; have B2 := Aside0.mk (below_ks B1.out hK (fun i hi => by rw [hi]; exact (Nat.le_refl _))); have R2 := Aside0.mk (R1.out.rdr X1.out hK); clear hX hK)
          | ((with_reducible refine gate_callee (f := 44) rfl ?_); refine goesL_ (some 21) rfl rfl Try.func44 (by kernel_rfl) rfl #[.pointer (some ⟨w2.heap.size, 0, none⟩), .int .i64 4] rfl (by (try simp only [List.map_toArray, List.map_cons, List.map_nil]); first | done | rfl) ?_; (with_reducible refine (numl_ok w2 w A1 c1 ((bs.drop at_).take 4) V1.out (bytes_take (bytes_drop FB.out _) _) (by rw [List.length_take, List.length_drop]; omega) hc1 B2.out).mono ?_); rintro e w3 ⟨rfl, hK⟩; rw [HN.out]; refine ⟨_, rfl, ?_⟩; have B3 := Aside0.mk (below_ks (below_alloc B2.out _) hK (fun i hi => by rw [hi]; exact B2.out.size)); have R3 := Aside0.mk ((R2.out.below (below_alloc (Below.refl _ _) _)).rdr (blk_new w2 _) hK); have X3 := Aside0.mk (blk_ks (blk_alloc X2.out _) hK (fun e => by have := blk_lt X2.out; omega)); have z2 := (blk_cell X3.out 2).trans rfl; have z1 := (blk_cell X3.out 1).trans rfl; clear hK))
        go_ret2
        exact ⟨_, G, at_, rfl, R3.out, ⟨by rw [List.length_map]; exact I.out, NB.out⟩, B3.out⟩
      have q1 : decide ((4194304 : Int) < (n : Int)) = false := decide_eq_false (by omega)
      by_cases k4 : bs.length < at_ + 8 + n
      · have NB := Aside0.mk (rec1_cut (bs := bs) (a := at_) (by rw [HN4.out]; exact k4))
        go_wp2_with (first
          | ((with_reducible refine gate_callee (f := 43) rfl ?_); refine goesL_ (some 15) rfl rfl Try.func43 (by kernel_rfl) rfl #[.pointer (some ⟨w.heap.size, 0, none⟩), .int .i64 4] rfl (by (try simp only [List.map_toArray, List.map_cons, List.map_nil]); first | done | rfl) ?_; (with_reducible refine (take4_ok _ w w.heap.size bs.length c at_ A bs X0.out F.out (by omega) (by omega) (by omega)).mono ?_); rintro e w1 ⟨v1, rfl, ⟨hV, hCap⟩, hX, hK⟩; refine ⟨_, rfl, ?_⟩; have V1 := Aside0.mk hV; have h4 : ((bs.drop at_).take 4).length = 4 := (by rw [List.length_take, List.length_drop]; omega); obtain ⟨A1, c1, rfl, hc1⟩ : ∃ A c, v1 = .slice A 4 c ∧ 4 ≤ c := (by obtain ⟨A, c, e, _⟩ := hV; obtain ⟨A', n', c', e', hcc⟩ := hCap; rw [h4] at e; rw [e] at e'; injection e' with _ e2 e3; exact ⟨A, c, e, by omega⟩); clear hV h4 hCap; have X1 := Aside0.mk hX; have B1 := Aside0.mk (below_ks B0.out hK (fun i hi => by rw [hi]; exact (Nat.le_refl _))); have R1 := Aside0.mk (R0.out.rdr X0.out hK); clear hX hK)
          | ((with_reducible refine gate_callee (f := 44) rfl ?_); refine goesL_ (some 17) rfl rfl Try.func44 (by kernel_rfl) rfl #[.pointer (some ⟨w.heap.size, 0, none⟩), .int .i64 4] rfl (by (try simp only [List.map_toArray, List.map_cons, List.map_nil]); first | done | rfl) ?_; (with_reducible refine (num4_ok _ w w.heap.size bs.length c (at_ + 4) A bs X1.out F.out FB.out (by omega) (by omega) (by omega) B1.out (Nat.le_refl _)).mono ?_); rintro e w2 ⟨rfl, hX, hK⟩; rw [HS.out]; refine ⟨_, rfl, ?_⟩; have X2 := Aside0.mk hX; have B2 := Aside0.mk (below_ks B1.out hK (fun i hi => by rw [hi]; exact (Nat.le_refl _))); have R2 := Aside0.mk (R1.out.rdr X1.out hK); clear hX hK)
          | ((with_reducible refine gate_callee (f := 44) rfl ?_); refine goesL_ (some 21) rfl rfl Try.func44 (by kernel_rfl) rfl #[.pointer (some ⟨w2.heap.size, 0, none⟩), .int .i64 4] rfl (by (try simp only [List.map_toArray, List.map_cons, List.map_nil]); first | done | rfl) ?_; (with_reducible refine (numl_ok w2 w A1 c1 ((bs.drop at_).take 4) V1.out (bytes_take (bytes_drop FB.out _) _) (by rw [List.length_take, List.length_drop]; omega) hc1 B2.out).mono ?_); rintro e w3 ⟨rfl, hK⟩; rw [HN.out]; refine ⟨_, rfl, ?_⟩; have B3 := Aside0.mk (below_ks (below_alloc B2.out _) hK (fun i hi => by rw [hi]; exact B2.out.size)); have R3 := Aside0.mk ((R2.out.below (below_alloc (Below.refl _ _) _)).rdr (blk_new w2 _) hK); have X3 := Aside0.mk (blk_ks (blk_alloc X2.out _) hK (fun e => by have := blk_lt X2.out; omega)); have z2 := (blk_cell X3.out 2).trans rfl; have z1 := (blk_cell X3.out 1).trans rfl; clear hK)
          | ((with_reducible refine gate_callee (f := 43) rfl ?_); refine goesL_ (some 35) rfl rfl Try.func43 (by kernel_rfl) rfl #[.pointer (some ⟨w.heap.size, 0, none⟩), .int .i64 (n : Nat)] rfl (by (try simp only [List.map_toArray, List.map_cons, List.map_nil]); first | done | rfl) ?_; (with_reducible refine (take_no _ w.heap.size bs.length c (at_ + 8) A (n : Int) X3.out (by omega) (by omega) (by omega)).mono ?_); rintro e w4 ⟨rfl, hX, hK⟩; refine ⟨_, rfl, ?_⟩; have X4 := Aside0.mk hX; have B4 := Aside0.mk (below_ks B3.out hK (fun i hi => by rw [hi]; exact (Nat.le_refl _))); have R4 := Aside0.mk (R3.out.rdr X3.out hK); have y2 := (blk_cell X4.out 2).trans rfl; have y1 := (blk_cell X4.out 1).trans rfl; clear hX hK z1 z2))
        go_ret2
        exact ⟨_, G, at_, rfl, R4.out, ⟨by rw [List.length_map]; exact I.out, NB.out⟩, B4.out⟩
      obtain ⟨x, hx⟩ : ∃ x, (bs.drop (at_ + 8)).take n = x := ⟨_, rfl⟩
      have HX := Aside0.mk hx
      have LX : Aside0 (x.length = n) := ⟨by rw [← hx, List.length_take, List.length_drop]; omega⟩
      have XB : Aside0 (bytes x) := ⟨hx ▸ bytes_take (bytes_drop FB.out _) _⟩
      clear hx
      obtain ⟨C, hC⟩ : ∃ C, crc ((bs.drop at_).take 4 ++ x) = C := ⟨_, rfl⟩
      have HC := Aside0.mk hC
      clear hC
      by_cases k5 : C = s
      · subst k5
        have NB := Aside0.mk (rec1_some (bs := bs) (a := at_) (n := n) (by omega) HN4.out (by omega) (by omega) (by rw [HX.out, HC.out, HS.out]))
        have q2 : ((C : Int) != (C : Int)) = false := by simp
        have e1 : IntKind.i64.wrap (n : Int) = (n : Int) := by rw [IntKind.wrap_i64]; omega
        go_wp2_with (first
          | ((with_reducible refine gate_callee (f := 43) rfl ?_); refine goesL_ (some 15) rfl rfl Try.func43 (by kernel_rfl) rfl #[.pointer (some ⟨w.heap.size, 0, none⟩), .int .i64 4] rfl (by (try simp only [List.map_toArray, List.map_cons, List.map_nil]); first | done | rfl) ?_; (with_reducible refine (take4_ok _ w w.heap.size bs.length c at_ A bs X0.out F.out (by omega) (by omega) (by omega)).mono ?_); rintro e w1 ⟨v1, rfl, ⟨hV, hCap⟩, hX, hK⟩; refine ⟨_, rfl, ?_⟩; have V1 := Aside0.mk hV; have h4 : ((bs.drop at_).take 4).length = 4 := (by rw [List.length_take, List.length_drop]; omega); obtain ⟨A1, c1, rfl, hc1⟩ : ∃ A c, v1 = .slice A 4 c ∧ 4 ≤ c := (by obtain ⟨A, c, e, _⟩ := hV; obtain ⟨A', n', c', e', hcc⟩ := hCap; rw [h4] at e; rw [e] at e'; injection e' with _ e2 e3; exact ⟨A, c, e, by omega⟩); clear hV h4 hCap; have X1 := Aside0.mk hX; have B1 := Aside0.mk (below_ks B0.out hK (fun i hi => by rw [hi]; exact (Nat.le_refl _))); have R1 := Aside0.mk (R0.out.rdr X0.out hK); clear hX hK)
          | ((with_reducible refine gate_callee (f := 44) rfl ?_); refine goesL_ (some 17) rfl rfl Try.func44 (by kernel_rfl) rfl #[.pointer (some ⟨w.heap.size, 0, none⟩), .int .i64 4] rfl (by (try simp only [List.map_toArray, List.map_cons, List.map_nil]); first | done | rfl) ?_; (with_reducible refine (num4_ok _ w w.heap.size bs.length c (at_ + 4) A bs X1.out F.out FB.out (by omega) (by omega) (by omega) B1.out (Nat.le_refl _)).mono ?_); rintro e w2 ⟨rfl, hX, hK⟩; rw [HS.out]; refine ⟨_, rfl, ?_⟩; have X2 := Aside0.mk hX; have B2 := Aside0.mk (below_ks B1.out hK (fun i hi => by rw [hi]; exact (Nat.le_refl _))); have R2 := Aside0.mk (R1.out.rdr X1.out hK); clear hX hK)
          | ((with_reducible refine gate_callee (f := 44) rfl ?_); refine goesL_ (some 21) rfl rfl Try.func44 (by kernel_rfl) rfl #[.pointer (some ⟨w2.heap.size, 0, none⟩), .int .i64 4] rfl (by (try simp only [List.map_toArray, List.map_cons, List.map_nil]); first | done | rfl) ?_; (with_reducible refine (numl_ok w2 w A1 c1 ((bs.drop at_).take 4) V1.out (bytes_take (bytes_drop FB.out _) _) (by rw [List.length_take, List.length_drop]; omega) hc1 B2.out).mono ?_); rintro e w3 ⟨rfl, hK⟩; rw [HN.out]; refine ⟨_, rfl, ?_⟩; have B3 := Aside0.mk (below_ks (below_alloc B2.out _) hK (fun i hi => by rw [hi]; exact B2.out.size)); have R3 := Aside0.mk ((R2.out.below (below_alloc (Below.refl _ _) _)).rdr (blk_new w2 _) hK); have X3 := Aside0.mk (blk_ks (blk_alloc X2.out _) hK (fun e => by have := blk_lt X2.out; omega)); have z2 := (blk_cell X3.out 2).trans rfl; have z1 := (blk_cell X3.out 1).trans rfl; clear hK)
          | ((with_reducible refine gate_callee (f := 43) rfl ?_); refine goesL_ (some 35) rfl rfl Try.func43 (by kernel_rfl) rfl #[.pointer (some ⟨w.heap.size, 0, none⟩), .int .i64 (n : Nat)] rfl (by (try simp only [List.map_toArray, List.map_cons, List.map_nil]); first | done | rfl) ?_; (with_reducible refine (take_ok _ w w.heap.size bs.length c (at_ + 8) n A bs X3.out F.out (by omega) (by omega) (by omega)).mono ?_); rintro e w4 ⟨v5, rfl, ⟨hV, _⟩, hX, hK⟩; rw [HX.out] at hV; obtain ⟨A5, c5, rfl, RI⟩ := hV.ints (by have := LX.out; omega); refine ⟨_, rfl, ?_⟩; have V5 := Aside0.mk hV; have RI := Aside0.mk RI; clear hV; have X4 := Aside0.mk hX; have B4 := Aside0.mk (below_ks B3.out hK (fun i hi => by rw [hi]; exact (Nat.le_refl _))); have R4 := Aside0.mk (R3.out.rdr X3.out hK); have y2 := (blk_cell X4.out 2).trans rfl; have y1 := (blk_cell X4.out 1).trans rfl; clear hX hK z1 z2)
          | ((with_reducible refine gate_callee (f := 40) rfl ?_); (try (refine gate_guard (by rfl) ?_; dsimp only)); refine goesL_ (some 43) rfl rfl Try.func40 (by kernel_rfl) rfl #[.slice A1 4 c1, .slice A5 x.length c5] rfl (by (try simp only [List.map_toArray, List.map_cons, List.map_nil]); first | done | rfl) ?_; (with_reducible refine (fsum_calls _ (.slice A1 4 c1) (.slice A5 x.length c5) ((bs.drop at_).take 4) x (V1.out.below B4.out) (V5.out.below B4.out) (bytes_take (bytes_drop FB.out _) _) XB.out (by rw [List.length_take]; omega) (by have := LX.out; omega)).mono ?_); rintro e w5 ⟨rfl, hb⟩; rw [HC.out]; refine ⟨_, rfl, ?_⟩; have X5 := Aside0.mk (blk_below X4.out hb); have B5 := Aside0.mk (below_then B4.out B4.out.size hb); have R5 := Aside0.mk (R4.out.below hb); have x2 := (blk_cell X5.out 2).trans rfl; have x1 := (blk_cell X5.out 1).trans rfl; clear hb y1 y2)
          | (at_builtin; refine print_append_row w5.heap.size rfl (.tmp 50) (.tmp 51) 27 5 .u8 1 rfl Try.underlying27 info5 (by decide) (.slice (some ⟨w5.heap.size, 0, none⟩) 0 0) [] x A5 x.length c5 rfl rfl (own_empty w5) (RI.out.below (below_alloc B5.out _)) (below_alloc (Below.refl w5.heap.size w5) _) (by simp) (by have := LX.out; simp; omega) ?_; intro v6 w6 hown hb _ _; have R6 := Aside0.mk (R5.out.below hb); have X6 := Aside0.mk (blk_below X5.out hb); have B6 := Aside0.mk (below_then B5.out B5.out.size hb); have O6 : Aside0 (HasB w6 w.heap.size v6 x) := ⟨own_mono hown B5.out.size⟩; obtain ⟨A6, c6, rfl⟩ := own_slice O6.out; clear hown hb x1 x2)
          | (at_builtin; refine print_append w.heap.size rfl (.tmp 49) (.tmp 53) 42 27 (.slice none 0 0) 24 rfl Try.underlying42 info27 rfl (by decide) (.slice A4 G.length c4) (G.map (·.1)) (.slice A6 x.length c6) (by rfl) (by rfl) (own_one O6.out) (by rw [List.length_map]; exact R6.out.row) B6.out B6.out.size (by rw [List.length_map]; have := GL.out; omega) ?_; intro v7 w7 hown hb hg _; have R7 := Aside0.mk (R6.out.add O6.out hown hg); have X7 := Aside0.mk (blk_grown X6.out hg (fun e => R6.out.row_ne X6.out e.symm)); have B7 := Aside0.mk hb; have t1 := (blk_cell X7.out 1).trans rfl; clear hown hb hg))
        go_roundg k2
        case measure => omega
        case rel =>
          refine ⟨G ++ [(_, x)], at_ + 8 + n, by simp, by omega, by omega, R7, ⟨?_⟩, X7, B7⟩
          rw [List.length_append, List.length_singleton, itr, I.out, Option.bind_some, NB.out, Option.map_some, List.map_append, HX.out, LX.out]
          rfl
      · have NB := Aside0.mk (rec1_other (bs := bs) (a := at_) (n := n) HN4.out (by rw [HX.out, HC.out, HS.out]; exact k5))
        have q2 : ((C : Int) != (s : Int)) = true := by simpa using (fun h => k5 (by omega))
        go_wp2_with (first
          | ((with_reducible refine gate_callee (f := 43) rfl ?_); refine goesL_ (some 15) rfl rfl Try.func43 (by kernel_rfl) rfl #[.pointer (some ⟨w.heap.size, 0, none⟩), .int .i64 4] rfl (by (try simp only [List.map_toArray, List.map_cons, List.map_nil]); first | done | rfl) ?_; (with_reducible refine (take4_ok _ w w.heap.size bs.length c at_ A bs X0.out F.out (by omega) (by omega) (by omega)).mono ?_); rintro e w1 ⟨v1, rfl, ⟨hV, hCap⟩, hX, hK⟩; refine ⟨_, rfl, ?_⟩; have V1 := Aside0.mk hV; have h4 : ((bs.drop at_).take 4).length = 4 := (by rw [List.length_take, List.length_drop]; omega); obtain ⟨A1, c1, rfl, hc1⟩ : ∃ A c, v1 = .slice A 4 c ∧ 4 ≤ c := (by obtain ⟨A, c, e, _⟩ := hV; obtain ⟨A', n', c', e', hcc⟩ := hCap; rw [h4] at e; rw [e] at e'; injection e' with _ e2 e3; exact ⟨A, c, e, by omega⟩); clear hV h4 hCap; have X1 := Aside0.mk hX; have B1 := Aside0.mk (below_ks B0.out hK (fun i hi => by rw [hi]; exact (Nat.le_refl _))); have R1 := Aside0.mk (R0.out.rdr X0.out hK); clear hX hK)
          | ((with_reducible refine gate_callee (f := 44) rfl ?_); refine goesL_ (some 17) rfl rfl Try.func44 (by kernel_rfl) rfl #[.pointer (some ⟨w.heap.size, 0, none⟩), .int .i64 4] rfl (by (try simp only [List.map_toArray, List.map_cons, List.map_nil]); first | done | rfl) ?_; (with_reducible refine (num4_ok _ w w.heap.size bs.length c (at_ + 4) A bs X1.out F.out FB.out (by omega) (by omega) (by omega) B1.out (Nat.le_refl _)).mono ?_); rintro e w2 ⟨rfl, hX, hK⟩; rw [HS.out]; refine ⟨_, rfl, ?_⟩; have X2 := Aside0.mk hX; have B2 := Aside0.mk (below_ks B1.out hK (fun i hi => by rw [hi]; exact (Nat.le_refl _))); have R2 := Aside0.mk (R1.out.rdr X1.out hK); clear hX hK)
          | ((with_reducible refine gate_callee (f := 44) rfl ?_); refine goesL_ (some 21) rfl rfl Try.func44 (by kernel_rfl) rfl #[.pointer (some ⟨w2.heap.size, 0, none⟩), .int .i64 4] rfl (by (try simp only [List.map_toArray, List.map_cons, List.map_nil]); first | done | rfl) ?_; (with_reducible refine (numl_ok w2 w A1 c1 ((bs.drop at_).take 4) V1.out (bytes_take (bytes_drop FB.out _) _) (by rw [List.length_take, List.length_drop]; omega) hc1 B2.out).mono ?_); rintro e w3 ⟨rfl, hK⟩; rw [HN.out]; refine ⟨_, rfl, ?_⟩; have B3 := Aside0.mk (below_ks (below_alloc B2.out _) hK (fun i hi => by rw [hi]; exact B2.out.size)); have R3 := Aside0.mk ((R2.out.below (below_alloc (Below.refl _ _) _)).rdr (blk_new w2 _) hK); have X3 := Aside0.mk (blk_ks (blk_alloc X2.out _) hK (fun e => by have := blk_lt X2.out; omega)); have z2 := (blk_cell X3.out 2).trans rfl; have z1 := (blk_cell X3.out 1).trans rfl; clear hK)
          | ((with_reducible refine gate_callee (f := 43) rfl ?_); refine goesL_ (some 35) rfl rfl Try.func43 (by kernel_rfl) rfl #[.pointer (some ⟨w.heap.size, 0, none⟩), .int .i64 (n : Nat)] rfl (by (try simp only [List.map_toArray, List.map_cons, List.map_nil]); first | done | rfl) ?_; (with_reducible refine (take_ok _ w w.heap.size bs.length c (at_ + 8) n A bs X3.out F.out (by omega) (by omega) (by omega)).mono ?_); rintro e w4 ⟨v5, rfl, ⟨hV, _⟩, hX, hK⟩; rw [HX.out] at hV; obtain ⟨A5, c5, rfl, RI⟩ := hV.ints (by have := LX.out; omega); refine ⟨_, rfl, ?_⟩; have V5 := Aside0.mk hV; have RI := Aside0.mk RI; clear hV; have X4 := Aside0.mk hX; have B4 := Aside0.mk (below_ks B3.out hK (fun i hi => by rw [hi]; exact (Nat.le_refl _))); have R4 := Aside0.mk (R3.out.rdr X3.out hK); have y2 := (blk_cell X4.out 2).trans rfl; have y1 := (blk_cell X4.out 1).trans rfl; clear hX hK z1 z2)
          | ((with_reducible refine gate_callee (f := 40) rfl ?_); (try (refine gate_guard (by rfl) ?_; dsimp only)); refine goesL_ (some 43) rfl rfl Try.func40 (by kernel_rfl) rfl #[.slice A1 4 c1, .slice A5 x.length c5] rfl (by (try simp only [List.map_toArray, List.map_cons, List.map_nil]); first | done | rfl) ?_; (with_reducible refine (fsum_calls _ (.slice A1 4 c1) (.slice A5 x.length c5) ((bs.drop at_).take 4) x (V1.out.below B4.out) (V5.out.below B4.out) (bytes_take (bytes_drop FB.out _) _) XB.out (by rw [List.length_take]; omega) (by have := LX.out; omega)).mono ?_); rintro e w5 ⟨rfl, hb⟩; rw [HC.out]; refine ⟨_, rfl, ?_⟩; have X5 := Aside0.mk (blk_below X4.out hb); have B5 := Aside0.mk (below_then B4.out B4.out.size hb); have R5 := Aside0.mk (R4.out.below hb); have x2 := (blk_cell X5.out 2).trans rfl; have x1 := (blk_cell X5.out 1).trans rfl; clear hb y1 y2))
        go_ret2
        exact ⟨_, G, at_, rfl, R5.out, ⟨by rw [List.length_map]; exact I.out, NB.out⟩, B5.out⟩
end Go.Proofs.Ytlfckoeolcnniaa.Net
