/- Walks of net's laws: begun, NetOrder, NetNone. -/
import Derived.Test.YtlfckoeolcnniaaNetC
import Derived.Laws.IdiomStrings
import Derived.Laws.BytesArg
import Derived.Lib.SlBytesConst
namespace Go.Proofs.Ytlfckoeolcnniaa.Net
open Go.RowKit Go.Proofs.YtlfckoeolcnniaaW.PrintWords Go.Proofs.YtlfckoeolcnniaaW.PrintLast Go.Proofs.YtlfckoeolcnniaaW.PrintMore
set_option linter.unusedVariables false
set_option linter.unusedSimpArgs false
def bstr (bs : List Int) : ByteArray := ⟨(bs.map (fun x => UInt8.ofNat x.toNat)).toArray⟩
theorem run_back (W : World) (v : Value) (bs : List Int) (base : Nat) (h : HasB W base v bs) (hbs : ∀ x ∈ bs, 0 ≤ x ∧ x < 256) : (convert 27 9 v).run Try.prog W = .ok (.string (bstr bs)) W := by
  rcases h.2 with ⟨rfl, h0⟩ | ⟨g, cap, cur, rfl, hb, hg, _⟩
  · have e0 : bs = [] := List.eq_nil_of_length_eq_zero h0
    subst e0
    exact run_convert_bytes_nil W 27 5 Try.underlying27 Try.underlying5 0 0 9 Try.underlying9
  · have hc := h.cells (g := g) rfl
    have := run_convert_bytes_back (P := Try.prog) W 27 9 5 ⟨g, 0, none⟩ cap (bs.map (fun x => UInt8.ofNat x.toNat)) Try.underlying27 Try.underlying5 Try.underlying9 (fun j hj => by
      have hj' : j < bs.length := by simpa using hj
      have e := hc j (.int .u8 bs[j]) (by rw [List.getElem?_map, List.getElem?_eq_getElem hj']; rfl)
      rw [e]
      have := hbs bs[j] (List.getElem_mem hj')
      simp only [List.getElem_map, UInt8.toNat_ofNat']
      congr 2
      omega)
    rw [List.length_map] at this
    exact this
section
variable {ops : Array Oper} {rest : List Oper} {o : Oper} {a : Act} {Q : Exit → Act → World → Prop} {W : World}
/-- string(b) -/
theorem back_event (hgd : o.guard = none) {x : Operand} (ho : o.op = .convert 27 9 x) (v : Value) (bs : List Int) (base : Nat) (hx : a.eval x = v) (hr : HasB W base v bs) (hbs : ∀ x ∈ bs, 0 ≤ x ∧ x < 256)
    (h : wpList Try.prog ops Q rest (a.put o.dst (.string (bstr bs))) W) : wpList Try.prog ops Q (o :: rest) a W := by
  refine Kd.event_run hgd ?_ h
  unfold execOp
  have hc := run_back W v bs base hr hbs
  simp only [ho, hx, Sem.run_bind, Sem.run_pure, Result.andThen_ok, hc]
end
theorem rdB_mark (w : World) (x : Int) : RdB (w.alloc (.cells #[.int .u8 x] 5 (1, 2))) (.slice (some ⟨w.heap.size, 0, none⟩) 1 1) [x] :=
  ⟨_, _, rfl, (fun h => nomatch h), fun a ha j u hu => by
    injection ha with ha
    subst ha
    rw [add0]
    refine (cell_of_row _ w.heap.size j _ 5 _ (blk_new w _)).trans ?_
    simpa using hu⟩
theorem hasB_one (w : World) (x : Int) (base : Nat) (hb : base ≤ w.heap.size) : HasB (w.alloc (.cells #[.int .u8 x] 5 (0, 0))) base (.slice (some ⟨w.heap.size, 0, none⟩) 1 1) [x] :=
  ⟨rfl, .inr ⟨w.heap.size, 1, #[.int .u8 x], rfl, hb, blk_new w _, Nat.le_refl _, by decide, rfl, rfl⟩⟩
theorem NetHas.below {w w' : World} {base p : Nat} {v : Value} {L : List Gr} (h : NetHas w base p v L) (hb : Below w.heap.size w w') : NetHas w' base p v L :=
  ⟨h.le, blk_below h.blk hb, own_below h.row hb, fun x hx => own_below (h.els x hx) hb⟩
theorem NetHas.alloc {w : World} {base p : Nat} {v : Value} {L : List Gr} (h : NetHas w base p v L) (o : Obj) : NetHas (w.alloc o) base p v L := h.below (below_alloc (Below.refl _ _) o)
theorem NetHas.S {w : World} {base p : Nat} {v : Value} {L : List Gr} (h : NetHas w base p v L) : ∀ k, (k = p ∨ v.ownBlock = some k) → base ≤ k := fun k hk => by
  rcases hk with rfl | hk
  · exact h.le
  · exact (own_blk h.row hk).1
theorem below_ks {w0 W W2 : World} {S : Nat → Prop} (B : Below w0.heap.size w0 W) (K : KS W W2 S) (hs : ∀ k, S k → w0.heap.size ≤ k) : Below w0.heap.size w0 W2 := below_weaken B (Nat.le_refl _) (K.below hs B.size)
set_option maxHeartbeats 4000000 in
set_option maxRecDepth 100000 in
theorem begun_calls (w : World) : Calls Try.prog 12 #[] w fun e w' => e = .returned (.bool true) ∧ Below w.heap.size w w' := by
  have HB := Aside0.mk (Below.refl w.heap.size w)
  have hs : bstr [120] = ⟨#[120]⟩ := rfl
  have kc := fun (w : World) (C : Array Value) (n c : Nat) => Lib.run_convert_bytes_const (P := Try.prog) w 27 5 C n c Try.underlying27 Try.underlying5
  go_enter Try.func12, Try.ntmps12
  go_wp2_with (first
    | ((with_reducible refine gate_callee (f := 13) rfl ?_); refine goesL_ (some 5) rfl rfl Try.func13 (by kernel_rfl) rfl #[] rfl (by (try simp only [List.map_toArray, List.map_cons, List.map_nil]); first | done | rfl) ?_; (with_reducible refine (new_calls _).mono ?_); rintro e w1 ⟨p, rfl, hp, hb, hbel⟩; refine ⟨_, rfl, ?_⟩; have N1 : Aside0 (NetHas w1 w.heap.size p (.slice none 0 0) []) := ⟨⟨hp, hb, World.ownsRow_nil _ _ _ _, by simp⟩⟩; have B1 := Aside0.mk hbel; clear hb hbel)
    | ((with_reducible refine gate_callee (f := 14) rfl ?_); refine goesL_ (some 11) rfl rfl Try.func14 (by kernel_rfl) rfl #[.pointer (some ⟨p, 0, none⟩), .int .i64 3, .slice (some ⟨w1.heap.size, 0, none⟩) 1 1] rfl (by (try simp only [List.map_toArray, List.map_cons, List.map_nil]); first | done | rfl) ?_; (with_reducible refine (send_calls _ w.heap.size p (.slice none 0 0) _ [] [120] 3 (N1.out.alloc _) (Nat.le_trans B1.out.size (by simp)) (by decide) (rdB_mark w1 120) (by decide)).mono ?_); rintro e w2 ⟨rfl, v2, vc, hN, hc, hK, _⟩; refine ⟨_, rfl, ?_⟩; have N2 : Aside0 (NetHas w2 w.heap.size p v2 [(3, vc, [120])]) := ⟨hN⟩; have B2 := Aside0.mk (below_ks (below_alloc B1.out _) hK N1.out.S); clear hN hc hK)
    | ((with_reducible refine gate_callee (f := 16) rfl ?_); refine goesL_ (some 14) rfl rfl Try.func16 (by kernel_rfl) rfl #[.pointer (some ⟨p, 0, none⟩), .int .i64 0] rfl (by (try simp only [List.map_toArray, List.map_cons, List.map_nil]); first | done | rfl) ?_; (with_reducible refine (take_calls _ w.heap.size p v2 _ 0 _ N2.out B2.out.size (by simp) rfl 0 rfl).mono ?_); rintro e w3 ⟨rfl, v3, hN, hK, _, hC⟩; refine ⟨_, rfl, ?_⟩; have N3 : Aside0 (NetHas w3 w.heap.size p v3 []) := ⟨hN⟩; have C3 := Aside0.mk hC; obtain ⟨A3, c3, rfl⟩ := own_shape N3.out.row; have B3 := Aside0.mk (below_ks B2.out hK N2.out.S); clear hN hK hC)
    | ((with_reducible refine gate_dst (N := 25) rfl ?_); (try (refine gate_guard (by rfl) ?_; dsimp only)); refine back_event rfl rfl vc [120] w.heap.size rfl C3.out (by simp) ?_)
    | ((with_reducible refine gate_callee (f := 15) rfl ?_); (try (refine gate_guard (by rfl) ?_; dsimp only)); refine goesL_ (some 30) rfl rfl Try.func15 (by kernel_rfl) rfl #[.pointer (some ⟨p, 0, none⟩)] rfl (by (try simp only [List.map_toArray, List.map_cons, List.map_nil]); first | done | rfl) ?_; (with_reducible refine (len_calls _ p _ _ _ N3.out.blk).mono ?_); rintro e w4 ⟨rfl, rfl⟩; refine ⟨_, rfl, ?_⟩))
  go_ret
  exact ⟨rfl, B3.out⟩
end Go.Proofs.Ytlfckoeolcnniaa.Net
