/- Walks of disk: Append, Create, Rename, Sync, Read, Units; no disk. -/
import Derived.Test.YtlfckoeolcnniaaDkD
namespace Go.Proofs.Ytlfckoeolcnniaa.Net
open Go.RowKit Go.Proofs.YtlfckoeolcnniaaW.PrintWords Go.Proofs.YtlfckoeolcnniaaW.PrintLast Go.Proofs.YtlfckoeolcnniaaW.PrintMore
set_option linter.unusedVariables false
set_option linter.unusedSimpArgs false
attribute [local go_sem ↓] Go.wp_at_zero Go.wp_at_succ
/-- what a disk's doing writes -/
abbrev DkS (f p : Nat) (va : Value) : Nat → Prop := fun k => k = f ∨ k = p ∨ va.ownBlock = some k
theorem Dk.notB {w : World} {base p f s : Nat} {F S : Ents} {b u : Nat} {va : Value} {A : List Deed} (h : Dk w base p f s F S b u va A) : ∀ k, DkS f p va k → (∃ cs f', w.heap[k]? = some (.cells cs 5 f')) → False := by
  rintro k hk ⟨cs, f', hb⟩
  rcases hk with hk | hk | hk
  · subst hk; exact h.mf.no_cells hb
  · subst hk; exact no_two h.blk hb (by decide)
  · obtain ⟨_, cs', h'⟩ := own_blk h.row hk
    exact no_two h' hb (by decide)
theorem Dk.below {w w' : World} {base p f s : Nat} {F S : Ents} {b u : Nat} {va : Value} {A : List Deed} (h : Dk w base p f s F S b u va A) (hb : Below w.heap.size w w') : Dk w' base p f s F S b u va A :=
  ⟨blk_below h.blk hb, h.mf.below hb, h.ms.below hb, h.ne, h.bp, h.bf, h.bs, pw_own_below h.row hb⟩
theorem Dk.S {w : World} {base p f s : Nat} {F S : Ents} {b u : Nat} {va : Value} {A : List Deed} (h : Dk w base p f s F S b u va A) : ∀ k, DkS f p va k → base ≤ k := by
  rintro k (hk | hk | hk)
  · exact hk ▸ h.bf
  · exact hk ▸ h.bp
  · exact (own_blk h.row hk).1
theorem ByR.rd {w : World} {v : Value} {bs : List Int} (h : ByR w v bs) : RdB w v bs := h.1
theorem do_append (w : World) (base p f s : Nat) (F S : Ents) (b u : Nat) (va : Value) (A : List Deed) (name : ByteArray) (vb : Value) (bs obs : List Int) (hD : Dk w base p f s F S b u va A) (hbase : base ≤ w.heap.size) (hA : A.length ≤ 1000) (hu : u ≤ 1000000) (hv : ByR w vb bs) (hp : 0 < bs.length) (hl : bs.length ≤ 100000) (ho : ByR w ((lkp name F).getD (.slice none 0 0)) obs) (hol : obs.length ≤ 100000) :
    Calls Try.prog 45 #[.pointer (some ⟨p, 0, none⟩), .agg #[.int .i64 0, .string name, .string ⟨#[]⟩, vb]] w fun e w' => e = .returned (.tuple #[]) ∧ ∃ v' va', Dk w' base p f s (upd name v' F) S b (u + bs.length) va' (A ++ [(0, name, ⟨#[]⟩, vb)]) ∧ ByR w' v' (obs ++ bs) ∧ KS w w' (DkS f p va) := by
  refine (do_calls w base p f s F S b u va A 0 name ⟨#[]⟩ vb bs (obs ++ bs) bs.length (fun F' v' => F' = upd name v' F) hD hbase hA (by omega) hv (by simp) hp (by omega) (fun W hb => ?_)).mono ?_
  · refine (does_append W f F name ⟨#[]⟩ vb obs bs (hD.mf.below hb) (ho.below hb) (hv.below hb) hp hl hol).mono ?_
    rintro e w' ⟨rfl, v', h1, h2, h3⟩
    exact ⟨rfl, _, v', rfl, h1, h2, h3⟩
  · rintro e w' ⟨rfl, F', v', va', rfl, h1, h2, h3⟩
    exact ⟨rfl, v', va', h1, h2, h3⟩
theorem do_create (w : World) (base p f s : Nat) (F S : Ents) (b u : Nat) (va : Value) (A : List Deed) (name : ByteArray) (hD : Dk w base p f s F S b u va A) (hbase : base ≤ w.heap.size) (hA : A.length ≤ 1000) (hu : u ≤ 1000000) :
    Calls Try.prog 45 #[.pointer (some ⟨p, 0, none⟩), .agg #[.int .i64 1, .string name, .string ⟨#[]⟩, .slice none 0 0]] w fun e w' => e = .returned (.tuple #[]) ∧ ∃ v' va', Dk w' base p f s (upd name v' F) S b (u + 1) va' (A ++ [(1, name, ⟨#[]⟩, .slice none 0 0)]) ∧ ByR w' v' [] ∧ KS w w' (DkS f p va) := by
  refine (do_calls w base p f s F S b u va A 1 name ⟨#[]⟩ (.slice none 0 0) [] [] 1 (fun F' v' => F' = upd name v' F) hD hbase hA (by omega) (ByR.nil w) (by simp) (by omega) (by omega) (fun W hb => ?_)).mono ?_
  · refine (does_create W f F name ⟨#[]⟩ none 0 0 (hD.mf.below hb)).mono ?_
    rintro e w' ⟨rfl, v', h1, h2, h3⟩
    exact ⟨rfl, _, v', rfl, h1, h2, h3⟩
  · rintro e w' ⟨rfl, F', v', va', rfl, h1, h2, h3⟩
    exact ⟨rfl, v', va', h1, h2, h3⟩
theorem do_rename (w : World) (base p f s : Nat) (F S : Ents) (b u : Nat) (va v : Value) (A : List Deed) (name to_ : ByteArray) (hD : Dk w base p f s F S b u va A) (hbase : base ≤ w.heap.size) (hA : A.length ≤ 1000) (hu : u ≤ 1000000) (hv : lkp name F = some v) (h1 : v.oneCell' = true) :
    Calls Try.prog 45 #[.pointer (some ⟨p, 0, none⟩), .agg #[.int .i64 2, .string name, .string to_, .slice none 0 0]] w fun e w' => e = .returned (.tuple #[]) ∧ ∃ va', Dk w' base p f s (upd to_ v (del name F)) S b (u + 1) va' (A ++ [(2, name, to_, .slice none 0 0)]) ∧ KS w w' (DkS f p va) := by
  refine (do_calls w base p f s F S b u va A 2 name to_ (.slice none 0 0) [] [] 1 (fun F' v' => F' = upd to_ v (del name F)) hD hbase hA (by omega) (ByR.nil w) (by simp) (by omega) (by omega) (fun W hb => ?_)).mono ?_
  · refine (does_rename W f F name to_ none 0 0 v (hD.mf.below hb) hv h1).mono ?_
    rintro e w' ⟨rfl, k1, k2⟩
    exact ⟨rfl, _, .slice none 0 0, rfl, k1, ByR.nil _, k2⟩
  · rintro e w' ⟨rfl, F', v', va', rfl, h1, h2, h3⟩
    exact ⟨rfl, va', h1, h3⟩
set_option maxHeartbeats 8000000 in
set_option maxRecDepth 100000 in
theorem dappend_calls (w : World) (base p f s : Nat) (F S : Ents) (b u : Nat) (va : Value) (A : List Deed) (name : ByteArray) (vb : Value) (bs obs : List Int) (hD : Dk w base p f s F S b u va A) (hbase : base ≤ w.heap.size) (hA : A.length ≤ 1000) (hu : u ≤ 1000000) (hv : RdB w vb bs) (hp : 0 < bs.length) (hl : bs.length ≤ 100000) (ho : ByR w ((lkp name F).getD (.slice none 0 0)) obs) (hol : obs.length ≤ 100000) :
    Calls Try.prog 26 #[.pointer (some ⟨p, 0, none⟩), .string name, vb] w fun e w' => e = .returned (.tuple #[]) ∧ ∃ v' vc va', Dk w' base p f s (upd name v' F) S b (u + bs.length) va' (A ++ [(0, name, ⟨#[]⟩, vc)]) ∧ ByR w' v' (obs ++ bs) ∧ ByR w' vc bs ∧ KS w w' (DkS f p va) := by
  obtain ⟨Ab, cb, rfl⟩ : ∃ A c, vb = .slice A bs.length c := by obtain ⟨A, c, e, _⟩ := hv; exact ⟨A, c, e⟩
  have D := Aside0.mk hD
  have V := Aside0.mk hv
  have O := Aside0.mk ho
  clear hD hv ho
  go_enter Try.func26, Try.ntmps26
  go_wp2_with (first
    | ((with_reducible refine gate_callee (f := 35) rfl ?_); refine goesL_ (some 9) rfl rfl Try.func35 (by kernel_rfl) rfl #[.slice Ab bs.length cb] rfl (by (try simp only [List.map_toArray, List.map_cons, List.map_nil]); first | done | rfl) ?_; (with_reducible refine (clone_calls _ bs w V.out (by omega)).mono ?_); rintro e w1 ⟨vc, rfl, hH, hb⟩; refine ⟨_, rfl, ?_⟩; obtain ⟨Ac, cc, rfl⟩ := own_slice hH; have C1 := Aside0.mk (ByR.of_has hH); have B1 := Aside0.mk hb; have D1 := Aside0.mk (D.out.below hb); have O1 := Aside0.mk (O.out.below hb); clear hH hb)
    | ((with_reducible refine gate_callee (f := 45) rfl ?_); go_loud (refine goesL_ (some 11) rfl rfl Try.func45 (by kernel_rfl) rfl #[.pointer (some ⟨p, 0, none⟩), .agg #[.int .i64 0, .string name, .string ⟨#[]⟩, .slice Ac bs.length cc]] rfl (by (try simp only [List.map_toArray, List.map_cons, List.map_nil]); first | done | rfl) ?_; (refine (do_append w1 base p f s F S b u va A name (.slice Ac bs.length cc) bs obs D1.out (Nat.le_trans hbase B1.out.size) hA hu C1.out hp hl O1.out hol).mono ?_)); rintro e w2 ⟨rfl, v', va', hD2, hR, hK⟩; refine ⟨_, rfl, ?_⟩; have D2 := Aside0.mk hD2; have R2 := Aside0.mk hR; have K2 := Aside0.mk hK; clear hD2 hR hK))
  go_end0
  exact ⟨rfl, v', .slice Ac bs.length cc, va', D2.out, R2.out, C1.out.ks K2.out D1.out.notB, (KS.of_below B1.out _).then_ K2.out (fun k h => .inl h)⟩
set_option maxHeartbeats 8000000 in
set_option maxRecDepth 100000 in
theorem dcreate_calls (w : World) (base p f s : Nat) (F S : Ents) (b u : Nat) (va : Value) (A : List Deed) (name : ByteArray) (hD : Dk w base p f s F S b u va A) (hbase : base ≤ w.heap.size) (hA : A.length ≤ 1000) (hu : u ≤ 1000000) :
    Calls Try.prog 27 #[.pointer (some ⟨p, 0, none⟩), .string name] w fun e w' => e = .returned (.tuple #[]) ∧ ∃ v' va', Dk w' base p f s (upd name v' F) S b (u + 1) va' (A ++ [(1, name, ⟨#[]⟩, .slice none 0 0)]) ∧ ByR w' v' [] ∧ KS w w' (DkS f p va) := by
  have D := Aside0.mk hD
  clear hD
  go_enter Try.func27, Try.ntmps27
  go_wp2_with (first
    | ((with_reducible refine gate_callee (f := 45) rfl ?_); refine goesL_ (some 7) rfl rfl Try.func45 (by kernel_rfl) rfl #[.pointer (some ⟨p, 0, none⟩), .agg #[.int .i64 1, .string name, .string ⟨#[]⟩, .slice none 0 0]] rfl (by (try simp only [List.map_toArray, List.map_cons, List.map_nil]); first | done | rfl) ?_; (refine (do_create w base p f s F S b u va A name D.out hbase hA hu).mono ?_); rintro e w2 ⟨rfl, h⟩; refine ⟨_, rfl, ?_⟩; have H := Aside0.mk h; clear h))
  go_end0
  exact ⟨rfl, H.out⟩
set_option maxHeartbeats 8000000 in
set_option maxRecDepth 100000 in
theorem drename_calls (w : World) (base p f s : Nat) (F S : Ents) (b u : Nat) (va v : Value) (A : List Deed) (name to_ : ByteArray) (hD : Dk w base p f s F S b u va A) (hbase : base ≤ w.heap.size) (hA : A.length ≤ 1000) (hu : u ≤ 1000000) (hv : lkp name F = some v) (h1 : v.oneCell' = true) :
    Calls Try.prog 34 #[.pointer (some ⟨p, 0, none⟩), .string name, .string to_] w fun e w' => e = .returned (.tuple #[]) ∧ ∃ va', Dk w' base p f s (upd to_ v (del name F)) S b (u + 1) va' (A ++ [(2, name, to_, .slice none 0 0)]) ∧ KS w w' (DkS f p va) := by
  have D := Aside0.mk hD
  have HV := Aside0.mk hv
  clear hD hv
  go_enter Try.func34, Try.ntmps34
  go_wp2_with (first
    | ((with_reducible refine gate_callee (f := 45) rfl ?_); refine goesL_ (some 10) rfl rfl Try.func45 (by kernel_rfl) rfl #[.pointer (some ⟨p, 0, none⟩), .agg #[.int .i64 2, .string name, .string to_, .slice none 0 0]] rfl (by (try simp only [List.map_toArray, List.map_cons, List.map_nil]); first | done | rfl) ?_; (refine (do_rename w base p f s F S b u va v A name to_ D.out hbase hA hu HV.out h1).mono ?_); rintro e w2 ⟨rfl, h⟩; refine ⟨_, rfl, ?_⟩; have H := Aside0.mk h; clear h))
  go_end0
  exact ⟨rfl, H.out⟩
set_option maxHeartbeats 8000000 in
set_option maxRecDepth 100000 in
theorem dunits_calls (w : World) (base p f s : Nat) (F S : Ents) (b u : Nat) (va : Value) (A : List Deed) (hD : Dk w base p f s F S b u va A) :
    Calls Try.prog 31 #[.pointer (some ⟨p, 0, none⟩)] w fun e w' => e = .returned (.int .i64 (u : Nat)) ∧ w' = w := by
  have c3 := (blk_cell hD.blk 3).trans rfl
  clear hD
  go_enter Try.func31, Try.ntmps31
  go_wp2
  go_ret
  exact ⟨rfl, rfl⟩
set_option maxHeartbeats 8000000 in
set_option maxRecDepth 100000 in
/-- Read of a file that is there -/
theorem dread_calls (w : World) (base p f s : Nat) (F S : Ents) (b u : Nat) (va v : Value) (A : List Deed) (name : ByteArray) (bs : List Int) (ok : Bool) (hD : Dk w base p f s F S b u va A) (hv : (lkp name F).getD (.slice none 0 0) = v) (hok : (lkp name F).isSome = ok) (hb : ByR w v bs) (hl : bs.length ≤ 1000000) :
    Calls Try.prog 29 #[.pointer (some ⟨p, 0, none⟩), .string name] w fun e w' => ∃ v', e = .returned (.tuple #[v', .bool ok]) ∧ HasB w' w.heap.size v' bs ∧ Below w.heap.size w w' := by
  have c0 := (blk_cell hD.blk 0).trans rfl
  have lk := run_lookupS 80 27 9 Try.underlying80 Try.underlying9 _ zero27 hD.mf name true
  simp only [if_true, hv, hok] at lk
  obtain ⟨Av, cv, rfl, _⟩ := hb.form
  have V := Aside0.mk hb
  clear hD hv hok hb
  go_enter Try.func29, Try.ntmps29
  go_wp2_with (first
    | ((with_reducible refine gate_callee (f := 35) rfl ?_); refine goesL_ (some 20) rfl rfl Try.func35 (by kernel_rfl) rfl #[.slice Av bs.length cv] rfl (by (try simp only [List.map_toArray, List.map_cons, List.map_nil]); first | done | rfl) ?_; (with_reducible refine (clone_calls _ bs w V.out.rd (by omega)).mono ?_); rintro e w1 ⟨vc, rfl, hH, hb⟩; refine ⟨_, rfl, ?_⟩; have C1 := Aside0.mk hH; have B1 := Aside0.mk hb; clear hH hb))
  go_ret2
  exact ⟨_, rfl, C1.out, B1.out⟩
/-- no disk -/
theorem do_nil (w : World) (kind : Int) (name to_ : ByteArray) (A : Option Addr) (n c : Nat) : Calls Try.prog 45 #[.pointer none, .agg #[.int .i64 kind, .string name, .string to_, .slice A n c]] w fun e w' => e = .returned (.tuple #[]) ∧ Below w.heap.size w w' := by
  go_enter Try.func45, Try.ntmps45
  go_wp2
  go_end0
  exact ⟨rfl, below_alloc (Below.refl _ _) _⟩
set_option maxHeartbeats 8000000 in
set_option maxRecDepth 100000 in
theorem append_nil (w : World) (name : ByteArray) (vb : Value) (bs : List Int) (hv : RdB w vb bs) (hl : bs.length ≤ 100000) : Calls Try.prog 26 #[.pointer none, .string name, vb] w fun e w' => e = .returned (.tuple #[]) ∧ Below w.heap.size w w' := by
  obtain ⟨Ab, cb, rfl⟩ : ∃ A c, vb = .slice A bs.length c := by obtain ⟨A, c, e, _⟩ := hv; exact ⟨A, c, e⟩
  have V := Aside0.mk hv
  clear hv
  go_enter Try.func26, Try.ntmps26
  go_wp2_with (first
    | ((with_reducible refine gate_callee (f := 35) rfl ?_); refine goesL_ (some 9) rfl rfl Try.func35 (by kernel_rfl) rfl #[.slice Ab bs.length cb] rfl (by (try simp only [List.map_toArray, List.map_cons, List.map_nil]); first | done | rfl) ?_; (with_reducible refine (clone_calls _ bs w V.out (by omega)).mono ?_); rintro e w1 ⟨vc, rfl, hH, hb⟩; refine ⟨_, rfl, ?_⟩; obtain ⟨Ac, cc, rfl⟩ := own_slice hH; have B1 := Aside0.mk hb; clear hH hb)
    | ((with_reducible refine gate_callee (f := 45) rfl ?_); refine goesL_ (some 11) rfl rfl Try.func45 (by kernel_rfl) rfl #[.pointer none, .agg #[.int .i64 0, .string name, .string ⟨#[]⟩, .slice Ac bs.length cc]] rfl (by (try simp only [List.map_toArray, List.map_cons, List.map_nil]); first | done | rfl) ?_; (refine (do_nil w1 0 name ⟨#[]⟩ Ac bs.length cc).mono ?_); rintro e w2 ⟨rfl, h⟩; refine ⟨_, rfl, ?_⟩; have B2 := Aside0.mk (below_step B1.out h); clear h))
  go_end0
  exact ⟨rfl, B2.out⟩
set_option maxHeartbeats 8000000 in
set_option maxRecDepth 100000 in
theorem create_nil (w : World) (name : ByteArray) : Calls Try.prog 27 #[.pointer none, .string name] w fun e w' => e = .returned (.tuple #[]) ∧ Below w.heap.size w w' := by
  go_enter Try.func27, Try.ntmps27
  go_wp2_with (first
    | ((with_reducible refine gate_callee (f := 45) rfl ?_); refine goesL_ (some 7) rfl rfl Try.func45 (by kernel_rfl) rfl #[.pointer none, .agg #[.int .i64 1, .string name, .string ⟨#[]⟩, .slice none 0 0]] rfl (by (try simp only [List.map_toArray, List.map_cons, List.map_nil]); first | done | rfl) ?_; (refine (do_nil w 1 name ⟨#[]⟩ none 0 0).mono ?_); rintro e w2 ⟨rfl, h⟩; refine ⟨_, rfl, ?_⟩; have B2 := Aside0.mk h; clear h))
  go_end0
  exact ⟨rfl, B2.out⟩
theorem sync_nil (w : World) : Calls Try.prog 28 #[.pointer none] w fun e w' => e = .returned (.tuple #[]) ∧ w' = w := by
  go_enter Try.func28, Try.ntmps28
  go_wp2
  go_end0
  exact ⟨rfl, rfl⟩
theorem read_nil (w : World) (name : ByteArray) : Calls Try.prog 29 #[.pointer none, .string name] w fun e w' => e = .returned (.tuple #[.slice none 0 0, .bool false]) ∧ w' = w := by
  go_enter Try.func29, Try.ntmps29
  go_wp2
  go_ret2
  exact ⟨rfl, rfl⟩
theorem units_nil (w : World) : Calls Try.prog 31 #[.pointer none] w fun e w' => e = .returned (.int .i64 0) ∧ w' = w := by
  go_enter Try.func31, Try.ntmps31
  go_wp2
  go_ret
  exact ⟨rfl, rfl⟩
theorem cut_nil (w : World) (n : Int) : Calls Try.prog 32 #[.pointer none, .int .i64 n] w fun e w' => e = .returned (.pointer none) ∧ w' = w := by
  go_enter Try.func32, Try.ntmps32
  go_wp2
  go_ret
  exact ⟨rfl, rfl⟩
end Go.Proofs.Ytlfckoeolcnniaa.Net
