/- The walk of NetOrder. -/
import Derived.Test.YtlfckoeolcnniaaNetD
namespace Go.Proofs.Ytlfckoeolcnniaa.Net
open Go.RowKit Go.Proofs.YtlfckoeolcnniaaW.PrintWords Go.Proofs.YtlfckoeolcnniaaW.PrintLast Go.Proofs.YtlfckoeolcnniaaW.PrintMore
set_option linter.unusedVariables false
set_option linter.unusedSimpArgs false
def key (j : Nat) : Int × List Int := ((j : Int) % 17, [(j : Int)])
def keyOf (x : Gr) : Int × List Int := (x.1, x.2.2)
theorem one_cell {w : World} {base : Nat} {v : Value} {x : Int} (h : HasB w base v [x]) : ∃ g cap, w.cell? ⟨g, 0, none⟩ = some (.int .u8 x) ∧ v = .slice (some ⟨g, 0, none⟩) 1 cap := by
  obtain ⟨g, cap, e, _⟩ := h.form (by simp)
  subst e
  have := h.cells (g := g) rfl 0 (.int .u8 x) rfl
  rw [add0] at this
  exact ⟨g, cap, this, rfl⟩
theorem order_step (back : Bool) (L : List Gr) (m i : Nat) (h : L.map keyOf = (if back then List.range (m - i) else List.range' i (m - i)).map key) (hi : i < m) :
    ∃ x, L[if back then m - i - 1 else 0]? = some x ∧ keyOf x = key (if back then m - 1 - i else i) ∧ (L.eraseIdx (if back then m - i - 1 else 0)).map keyOf = (if back then List.range (m - (i + 1)) else List.range' (i + 1) (m - (i + 1))).map key := by
  have hl : L.length = m - i := by have := congrArg List.length h; cases back <;> simpa using this
  cases back
  · cases L with
    | nil => simp at hl; omega
    | cons x r =>
      simp only [Bool.false_eq_true, if_false] at h ⊢
      rw [show m - i = (m - (i + 1)) + 1 by omega, List.range'_succ, List.map_cons, List.map_cons] at h
      injection h with h1 h2
      exact ⟨x, rfl, h1, h2⟩
  · simp only [if_true] at h ⊢
    have hlt : m - i - 1 < L.length := by omega
    refine ⟨L[m - i - 1], List.getElem?_eq_getElem hlt, ?_, ?_⟩
    · have := congrArg (fun l => l[m - i - 1]?) h
      simp only [List.getElem?_map, List.getElem?_eq_getElem hlt, List.getElem?_range (show m - i - 1 < m - i by omega), Option.map_some, Option.some.injEq] at this
      rw [this, show m - i - 1 = m - 1 - i by omega]
    · rw [← hl, List.eraseIdx_length_sub_one, List.map_dropLast, h, show m - i = (m - (i + 1)) + 1 by omega, List.range_succ, List.map_append]
      exact List.dropLast_concat
set_option maxHeartbeats 8000000 in
set_option maxRecDepth 100000 in
theorem order_mid (n : Nat) (back : Bool) (w : World) (hn : n ≤ 256) : Calls Try.prog 4 #[.int .i64 (n : Int), .bool back] w fun e w' => e = .returned (.bool true) ∧ Below w.heap.size w w' := by
  have HB := Aside0.mk (Below.refl w.heap.size w)
  have c1 : decide ((n : Int) < 0) = false := decide_eq_false (by omega)
  have c2 : decide ((256 : Int) < (n : Int)) = false := decide_eq_false (by omega)
  go_enter Try.func4, Try.ntmps4
  go_wp2_with (first
    | ((with_reducible refine gate_callee (f := 12) rfl ?_); refine goesL_ (some 14) rfl rfl Try.func12 (by kernel_rfl) rfl #[] rfl (by (try simp only [List.map_toArray, List.map_cons, List.map_nil]); first | done | rfl) ?_; (with_reducible refine (begun_calls _).mono ?_); rintro e w1 ⟨rfl, hb⟩; refine ⟨_, rfl, ?_⟩; have B1 := Aside0.mk hb; clear hb)
    | ((with_reducible refine gate_callee (f := 13) rfl ?_); refine goesL_ (some 24) rfl rfl Try.func13 (by kernel_rfl) rfl #[] rfl (by (try simp only [List.map_toArray, List.map_cons, List.map_nil]); first | done | rfl) ?_; (with_reducible refine (new_calls _).mono ?_); rintro e w2 ⟨p, rfl, hp, hb, hbel⟩; refine ⟨_, rfl, ?_⟩; have N2 : Aside0 (NetHas w2 w.heap.size p (.slice none 0 0) []) := ⟨⟨Nat.le_trans B1.out.size hp, hb, World.ownsRow_nil _ _ _ _, by simp⟩⟩; have B2 := Aside0.mk (below_step B1.out hbel); clear hb hbel hp))
  go_loopg [7] 300 (fun kq v7 w' => ∃ (m : Nat) (v : Value) (L : List Gr), v7 = .int .i64 (m : Int) ∧ m ≤ n ∧ n - m < kq ∧ Aside0 (NetHas w' w.heap.size p v L) ∧ Aside0 (L.map keyOf = (List.range m).map key) ∧ Aside0 (Below w.heap.size w w'))
  case atStart => exact ⟨0, _, [], rfl, Nat.zero_le _, by omega, N2, ⟨rfl⟩, B2⟩
  case round =>
    clear N2 B2 B1 HB
    obtain ⟨m, v, L, rfl, hm, hk, N, M, B⟩ := hrel
    cases gk with
    | zero => omega
    | succ k2 =>
      by_cases c : m < n
      · have q3 : decide ((m : Int) < (n : Int)) = true := decide_eq_true (by omega)
        have q0 : (m : Int).tmod 17 = (m : Int) % 17 := Int.tmod_eq_emod_of_nonneg (by omega)
        have q1 : IntKind.i64.wrap ((m : Int) % 17) = (m : Int) % 17 := by rw [IntKind.wrap_i64]; omega
        have q2 : IntKind.u8.wrap (m : Int) = (m : Int) := wraps_u8 _ (by omega) (by omega)
        have q4 : IntKind.i64.wrap ((m : Int) + 1) = (m : Int) + 1 := by rw [IntKind.wrap_i64]; omega
        have hl : L.length = m := by have := congrArg List.length M.out; simpa using this
        go_wp2_with (first
          | ((with_reducible refine gate_callee (f := 14) rfl ?_); refine goesL_ (some 36) rfl rfl Try.func14 (by kernel_rfl) rfl #[.pointer (some ⟨p, 0, none⟩), .int .i64 ((m : Int) % 17), .slice (some ⟨wr.heap.size, 0, none⟩) 1 1] rfl (by (try simp only [List.map_toArray, List.map_cons, List.map_nil]); first | done | rfl) ?_; (with_reducible refine (send_calls _ w.heap.size p v _ L [(m : Int)] ((m : Int) % 17) (N.out.alloc _) (Nat.le_trans B.out.size (by simp)) (by omega) (RdB.of_has (hasB_one wr (m : Int) 0 (Nat.zero_le _))) (by simp)).mono ?_); rintro e w3 ⟨rfl, v3, vc, hN, hc, hK, _⟩; refine ⟨_, rfl, ?_⟩; have N3 := Aside0.mk hN; have B3 := Aside0.mk (below_ks (below_alloc B.out _) hK N.out.S); clear hN hc hK))
        go_roundg k2
        case measure => omega
        case rel =>
          refine ⟨m + 1, v3, L ++ [((m : Int) % 17, vc, [(m : Int)])], by simp, by omega, by omega, ⟨?_⟩, ⟨?_⟩, B3⟩
          · have h3 := N3.out
            rw [hl, show m + 1 - 256 = 0 by omega, List.drop_zero] at h3
            exact h3
          · rw [List.map_append, M.out, List.range_succ, List.map_append]
            rfl
      · obtain rfl : m = n := by omega
        clear c
        have q3 : decide ((m : Int) < (m : Int)) = false := decide_eq_false (by omega)
        go_wp2
        go_loopg [8] 300 (fun kq v8 w' => ∃ (i : Nat) (v : Value) (L : List Gr), v8 = .int .i64 (i : Int) ∧ i ≤ m ∧ m - i < kq ∧ Aside0 (NetHas w' w.heap.size p v L) ∧ Aside0 (L.map keyOf = (if back then List.range (m - i) else List.range' i (m - i)).map key) ∧ Aside0 (Below w.heap.size w w'))
        case atStart => exact ⟨0, _, L, rfl, Nat.zero_le _, by omega, N, ⟨by rw [M.out]; cases back <;> simp [List.range_eq_range']⟩, B⟩
        case round =>
          clear N M B
          obtain ⟨i, v, L, rfl, hi, hk, N, M, B⟩ := hrel
          cases gk with
          | zero => omega
          | succ k2 =>
            have hl : L.length = m - i := by have := congrArg List.length M.out; cases back <;> simpa using this
            by_cases c : i < m
            · have q3 : decide ((i : Int) < (m : Int)) = true := decide_eq_true (by omega)
              have q4 : IntKind.i64.wrap ((i : Int) + 1) = (i : Int) + 1 := by rw [IntKind.wrap_i64]; omega
              obtain ⟨Av, cv, rfl⟩ := own_shape N.out.row
              cases back
              · skip
                have hst := order_step false L m i M.out c
                simp only [Bool.false_eq_true, if_false, if_true] at hst
                obtain ⟨⟨t, u, bs⟩, hx, hkey, hnext⟩ := hst
                injection hkey with hk1 hk2
                simp only at hk1 hk2
                subst hk1
                subst hk2
                have r0 : ((i : Int)).tmod 17 = ((i : Int)) % 17 := Int.tmod_eq_emod_of_nonneg (by omega)
                have r1 : IntKind.i64.wrap (((i : Int)) % 17) = ((i : Int)) % 17 := by rw [IntKind.wrap_i64]; omega
                have r2 : IntKind.u8.wrap ((i : Int)) = ((i : Int)) := wraps_u8 _ (by omega) (by omega)
                have h1000 : L.length ≤ 1000 := by omega
                clear hl
                go_wp2_with (first
                  | ((with_reducible refine gate_callee (f := 16) rfl ?_); refine goesL_ (some 54) rfl rfl Try.func16 (by kernel_rfl) rfl #[.pointer (some ⟨p, 0, none⟩), .int .i64 0] rfl (by (try simp only [List.map_toArray, List.map_cons, List.map_nil]); first | done | rfl) ?_; (with_reducible refine (take_calls _ w.heap.size p _ L 0 _ N.out B.out.size h1000 hx 0 rfl).mono ?_); rintro e w3 ⟨rfl, v3, hN, hK, _, hC⟩; refine ⟨_, rfl, ?_⟩; have N3 := Aside0.mk hN; have B3 := Aside0.mk (below_ks B.out hK N.out.S); obtain ⟨g3, cap3, cell3, e3⟩ := one_cell hC; subst e3; clear hN hK hC))
                go_roundg k2
                case measure => omega
                case rel => exact ⟨i + 1, v3, _, by simp, by omega, by omega, N3, ⟨hnext⟩, B3⟩
              · skip
                have hst := order_step true L m i M.out c
                simp only [Bool.false_eq_true, if_false, if_true] at hst
                obtain ⟨⟨t, u, bs⟩, hx, hkey, hnext⟩ := hst
                injection hkey with hk1 hk2
                simp only at hk1 hk2
                subst hk1
                subst hk2
                have r0 : (((m - 1 - i : Nat) : Int)).tmod 17 = (((m - 1 - i : Nat) : Int)) % 17 := Int.tmod_eq_emod_of_nonneg (by omega)
                have r1 : IntKind.i64.wrap ((((m - 1 - i : Nat) : Int)) % 17) = (((m - 1 - i : Nat) : Int)) % 17 := by rw [IntKind.wrap_i64]; omega
                have r2 : IntKind.u8.wrap (((m - 1 - i : Nat) : Int)) = (((m - 1 - i : Nat) : Int)) := wraps_u8 _ (by omega) (by omega)
                have r5 : IntKind.i64.wrap ((L.length : Int) - 1) = ((m - i - 1 : Nat) : Int) := by rw [IntKind.wrap_i64]; omega
                have r6 : IntKind.i64.wrap ((m : Int) - 1) = (m : Int) - 1 := by rw [IntKind.wrap_i64]; omega
                have r7 : IntKind.i64.wrap ((m : Int) - 1 - (i : Int)) = ((m - 1 - i : Nat) : Int) := by rw [IntKind.wrap_i64]; omega
                have h1000 : L.length ≤ 1000 := by omega
                clear hl
                go_wp2_with (first
                  | ((with_reducible refine gate_callee (f := 16) rfl ?_); refine goesL_ (some 54) rfl rfl Try.func16 (by kernel_rfl) rfl #[.pointer (some ⟨p, 0, none⟩), .int .i64 ((m - i - 1 : Nat) : Int)] rfl (by (try simp only [List.map_toArray, List.map_cons, List.map_nil]); first | done | rfl) ?_; (with_reducible refine (take_calls _ w.heap.size p _ L (m - i - 1) _ N.out B.out.size h1000 hx ((m - i - 1 : Nat) : Int) rfl).mono ?_); rintro e w3 ⟨rfl, v3, hN, hK, _, hC⟩; refine ⟨_, rfl, ?_⟩; have N3 := Aside0.mk hN; have B3 := Aside0.mk (below_ks B.out hK N.out.S); obtain ⟨g3, cap3, cell3, e3⟩ := one_cell hC; subst e3; clear hN hK hC)
                  | ((with_reducible refine gate_callee (f := 15) rfl ?_); refine goesL_ (some 45) rfl rfl Try.func15 (by kernel_rfl) rfl #[.pointer (some ⟨p, 0, none⟩)] rfl (by (try simp only [List.map_toArray, List.map_cons, List.map_nil]); first | done | rfl) ?_; (with_reducible refine (len_calls _ p _ _ _ N.out.blk).mono ?_); rintro e w4 ⟨rfl, rfl⟩; refine ⟨_, rfl, ?_⟩))
                go_roundg k2
                case measure => omega
                case rel => exact ⟨i + 1, v3, _, by simp, by omega, by omega, N3, ⟨hnext⟩, B3⟩
            · obtain rfl : i = m := by omega
              have q3 : decide ((i : Int) < (i : Int)) = false := decide_eq_false (by omega)
              obtain ⟨Av, cv, rfl⟩ := own_shape N.out.row
              have hl0 : L.length = 0 := by omega
              go_wp2_with (first
                | ((with_reducible refine gate_callee (f := 15) rfl ?_); (try (refine gate_guard (by rfl) ?_; dsimp only)); refine goesL_ (some 82) rfl rfl Try.func15 (by kernel_rfl) rfl #[.pointer (some ⟨p, 0, none⟩)] rfl (by (try simp only [List.map_toArray, List.map_cons, List.map_nil]); first | done | rfl) ?_; (with_reducible refine (len_calls _ p _ _ _ N.out.blk).mono ?_); rintro e w4 ⟨rfl, rfl⟩; refine ⟨_, rfl, ?_⟩))
              go_ret
              exact ⟨rfl, B.out⟩
set_option maxHeartbeats 4000000 in
set_option maxRecDepth 100000 in
theorem order_out (n : Int) (back : Bool) (w : World) (hn : n < 0 ∨ 256 < n) : Calls Try.prog 4 #[.int .i64 n, .bool back] w fun e w' => e = .returned (.bool true) ∧ Below w.heap.size w w' := by
  have HB := Aside0.mk (Below.refl w.heap.size w)
  by_cases c : n < 0
  · have c1 : decide (n < 0) = true := decide_eq_true c
    go_enter Try.func4, Try.ntmps4
    go_wp2_with (first
      | ((with_reducible refine gate_callee (f := 12) rfl ?_); refine goesL_ (some 14) rfl rfl Try.func12 (by kernel_rfl) rfl #[] rfl (by (try simp only [List.map_toArray, List.map_cons, List.map_nil]); first | done | rfl) ?_; (with_reducible refine (begun_calls _).mono ?_); rintro e w1 ⟨rfl, hb⟩; refine ⟨_, rfl, ?_⟩; have B1 := Aside0.mk hb; clear hb))
    go_ret
    exact ⟨rfl, B1.out⟩
  · have c1 : decide (n < 0) = false := decide_eq_false c
    have c2 : decide (256 < n) = true := decide_eq_true (by omega)
    have c3 : (256 : Int) < n := by omega
    clear hn
    go_enter Try.func4, Try.ntmps4
    go_wp2_with (first
      | ((with_reducible refine gate_callee (f := 12) rfl ?_); refine goesL_ (some 14) rfl rfl Try.func12 (by kernel_rfl) rfl #[] rfl (by (try simp only [List.map_toArray, List.map_cons, List.map_nil]); first | done | rfl) ?_; (with_reducible refine (begun_calls _).mono ?_); rintro e w1 ⟨rfl, hb⟩; refine ⟨_, rfl, ?_⟩; have B1 := Aside0.mk hb; clear hb))
    go_ret
    exact ⟨rfl, B1.out⟩
theorem order_calls (n : Int) (back : Bool) (w : World) (_h : (Lit.int .i64 n).wf = true) : Calls Try.prog 4 #[.int .i64 n, .bool back] w fun e w' => e = .returned (.bool true) ∧ Below w.heap.size w w' := by
  by_cases c : n < 0 ∨ 256 < n
  · exact order_out n back w c
  · have h := order_mid n.toNat back w (by omega)
    rw [show ((n.toNat : Nat) : Int) = n by omega] at h
    exact h
end Go.Proofs.Ytlfckoeolcnniaa.Net
