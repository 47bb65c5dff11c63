/- The law FixSum: whatever the slice, it returns true. Condition: elements that are int64s; the listed variables read as laid. -/
import Derived.Test.YtkcncfikejepdaaDoorRs
import Derived.Test.YtkcncfikejepdaaDoorFixV
import Derived.WalkKit
namespace Go.Proofs.YtkcncfikejepdaaDoor.Ext
open Go.RowKit Go.Proofs.YtkcncfikejepdaaDoorW.PrintWords Go.Proofs.YtkcncfikejepdaaDoorW.PrintLast Go.Proofs.YtkcncfikejepdaaDoorW.PrintMore Go.Proofs.YtkcncfikejepdaaDoor.EFix
attribute [local go_sem] max2_int min2_int max_two min_two max_three min_three max_four min_four
set_option linter.unusedVariables false
set_option linter.unusedSimpArgs false
theorem sum_reverse (l : List Int) : l.reverse.sum = l.sum := by
  induction l with
  | nil => rfl
  | cons x l ih => rw [List.reverse_cons, List.sum_append, ih]; simp; omega
theorem ReadsOf_of_int {w : World} {A : Option Addr} {n : Nat} {xs : List Int} (h : ReadsInt w .i64 A n xs) : ReadsOf (fun x : Int => Value.int .i64 x) (0 : Int) w A n xs := by
  obtain ⟨h1, h2, h3⟩ := h
  exact ⟨h1, h2, h3⟩
set_option maxHeartbeats 8000000 in
set_option maxRecDepth 100000 in
theorem fixSum_short (A0 : Option Addr) (c0 : Nat) (L : List Int) (w : World) (hL : Aside0 (Lq w)) (hrL : Kd.C (Kd.int .i64) w A0 L.length L) (hcL : L.length ≤ c0) (hl : L.length ≤ 40) (hw : ∀ x, x ∈ L → -9223372036854775808 ≤ x ∧ x ≤ 9223372036854775807) :
    Calls Tryd.prog 3 #[.slice A0 L.length c0] w fun e w' => e = .returned (.bool true) ∧ Below w.heap.size w w' := by
  have HB := Aside0.mk (Below.refl w.heap.size w)
  have k40 : decide (40 < (L.length : Int)) = false := decide_eq_false (by omega)
  go_enter Tryd.func3, Tryd.ntmps3
  go_upto_block 0 with (first | ((with_reducible refine gate_callee (f := 9) rfl ?_); refine goesL_ (some 12) rfl rfl Tryd.func9 (by kernel_rfl) rfl #[] rfl (by (try simp only [List.map_toArray, List.map_cons, List.map_nil]); first | done | rfl) ?_; (refine (EFix.counterpanelaw1_begun.calls (hL := ⟨hL.out.below HB.out⟩) 300 true _ (begun_f 300 (by decide))).mono ?_); rintro e w9 ⟨rfl, hb⟩; refine ⟨_, rfl, ?_⟩; have n1_ := Aside0.mk (below_step HB.out hb); clear HB; have HB := n1_; clear n1_; clear hb))
  (try simp only [Act.put, List.setIfInBounds_toArray, List.set_cons_zero, List.set_cons_succ])
  go_wp2
  go_loopg [4, 5] 100 (fun kq v4 v5 w' => ∃ j : Nat, v5 = .int .i64 ((j : Int) - 1) ∧ j ≤ L.length ∧ j < kq ∧ Aside0 (w'.ownsRow w.heap.size 24 1 v4 ((L.drop j).reverse).length (nums .i64 (L.drop j).reverse)) ∧ Aside0 (Below w.heap.size w w'))
  case atStart => exact ⟨L.length, by first | rfl | (simp; done) | (simp [*]; done), Nat.le_refl _, by omega, ⟨by rw [List.drop_length]; exact own_nil _ _ _ _⟩, HB⟩
  case round =>
    clear HB
    obtain ⟨j, rfl, hj, hk, HO, HB⟩ := hrel
    cases j with
    | succ j =>
      have e0 : (((j + 1 : Nat) : Int) - 1) = (j : Int) := by omega
      rw [e0]
      obtain ⟨k2, rfl⟩ : ∃ k2, gk = k2 + 1 := ⟨gk - 1, by omega⟩
      have k1 : decide (0 ≤ (j : Int)) = true := decide_eq_true (by omega)
      have p1 : (0 ≤ (j : Int)) = True := eq_true (by omega)
      have q1 : ((j : Int) < (L.length : Int)) = True := eq_true (by omega)
      have q2 : (j < L.length) = True := eq_true (by omega)
      obtain ⟨ad, e1, hx0⟩ := Kd.at_int (Kd.C_below hrL HB.out) (j : Int) (by omega) (by omega)
      cases e1
      have er : rd L (j : Int) = L[j] := by simp [rd, show j < L.length by omega]
      rw [er, Int.toNat_natCast] at hx0
      obtain ⟨y, ey⟩ : ∃ y, L[j] = y := ⟨_, rfl⟩
      rw [ey] at hx0
      have hdr : (L.drop j).reverse = (L.drop (j + 1)).reverse ++ [y] := by rw [List.drop_eq_getElem_cons (show j < L.length by omega), List.reverse_cons, ey]
      obtain ⟨xs, hxs⟩ : ∃ xs, (L.drop (j + 1)).reverse = xs := ⟨_, rfl⟩
      have hxl : xs.length ≤ 40 := by rw [← hxs]; simp; omega
      rw [hxs] at HO hdr
      clear hxs er ey
      go_wp2_with (first
        | ((with_reducible refine gate_builtin (b := .append) (xs := #[.tmp 27, .tmp 32]) rfl ?_); at_builtin; refine print_append_num (w0 := w) w.heap.size rfl (.tmp 27) (.tmp 32) 22 24 .i64 8 rfl Tryd.underlying22 (by kernel_rfl) (by decide) _ xs y rfl rfl HO.out HB.out (below_size HB.out) (by omega) ?_; intro v1 w1 hown hb hg hat; have n0_ := Aside0.mk hown; have n1_ := Aside0.mk hb; clear HO HB; have HO := n0_; have HB := n1_; clear n0_ n1_; clear hown hb hg hat))
      go_roundg k2
      case measure => omega
      case rel => exact ⟨j, by first | rfl | (simp; done), by omega, by omega, ⟨by rw [hdr]; exact HO.out⟩, HB⟩
    | zero =>
      have e0 : (((0 : Nat) : Int) - 1) = -1 := rfl
      rw [e0]
      rw [List.drop_zero] at HO
      have hRl : L.reverse.length = L.length := List.length_reverse
      have hRw : ∀ x, x ∈ L.reverse → -9223372036854775808 ≤ x ∧ x ≤ 9223372036854775807 := fun a ha => hw a (List.mem_reverse.mp ha)
      have hRs := sum_reverse L
      obtain ⟨R, hRv⟩ : ∃ R, L.reverse = R := ⟨_, rfl⟩
      rw [hRv] at HO hRl hRw hRs
      clear hRv
      obtain ⟨A1, c1, e1, hR1⟩ := own_reads HO.out
      subst e1
      have hc1 : R.length ≤ c1 := own_cap HO.out
      have hC1 : Kd.C (Kd.int .i64) wr A1 R.length R := Kd.C_of_reads (d := (0 : Int)) (ReadsOf_of_int hR1)
      clear HO hR1
      have hs1 := sum_f L (by omega) hw 50 (by omega)
      have hs2 := sum_f R (by omega) hRw 50 (by omega)
      have hs3 : counterpaneref1_Sum.f L = some (sumS L.sum) := by
        unfold counterpaneref1_Sum.f
        rw [if_pos ⟨by omega, hw⟩, endW_sum L (by omega) hw]
      rw [hRs] at hs2
      obtain ⟨⟨r1, r2⟩, er⟩ : ∃ r, sumS L.sum = r := ⟨_, rfl⟩
      rw [er] at hs1 hs2 hs3
      have x1 : (r1 == r1) = true := beq_self_eq_true r1
      have x2 : (r2 == r2) = true := beq_self_eq_true r2
      have hS1 := fun w' (h : Kd.C (Kd.int .i64) w' A0 L.length L) => EFix.fixnum_Sum.calls 50 A0 c0 L r1 r2 w' h hcL hs1
      have hS3 := fun w' (h : Kd.C (Kd.int .i64) w' A0 L.length L) => counterpaneref1_Sum.calls A0 c0 L r1 r2 w' h hcL hs3
      clear er hRl hRw hRs hs1 hs3
      go_wp2_with (first
        | ((with_reducible refine gate_callee (f := 10) rfl ?_); refine goesL_ (some 36) rfl rfl Tryd.func10 (by kernel_rfl) rfl #[.slice A0 L.length c0] rfl (by (try simp only [List.map_toArray, List.map_cons, List.map_nil]); first | done | rfl) ?_; (refine (hS1 _ (Kd.C_below hrL (by repeat (first | (with_reducible first | exact HB.out | apply below_alloc | apply below_drew | apply pw_below_drewN | apply below_drew1) | exact HB.out)))).mono ?_); rintro e w1 ⟨rfl, ⟨nd, rfl⟩⟩; refine ⟨_, rfl, ?_⟩)
        | ((with_reducible refine gate_callee (f := 10) rfl ?_); refine goesL_ (some 41) rfl rfl Tryd.func10 (by kernel_rfl) rfl #[.slice A1 R.length c1] rfl (by (try simp only [List.map_toArray, List.map_cons, List.map_nil]); first | done | rfl) ?_; (refine (EFix.fixnum_Sum.calls 50 A1 c1 R r1 r2 _ (by repeat (first | exact hC1 | refine Kd.C_drewN ?_ _ | refine Kd.C_drew ?_)) hc1 hs2).mono ?_); rintro e w1 ⟨rfl, ⟨nd, rfl⟩⟩; refine ⟨_, rfl, ?_⟩)
        | ((with_reducible refine gate_callee (f := 11) rfl ?_); refine goesL_ (some 46) rfl rfl Tryd.func11 (by kernel_rfl) rfl #[.slice A0 L.length c0] rfl (by (try simp only [List.map_toArray, List.map_cons, List.map_nil]); first | done | rfl) ?_; (refine (hS3 _ (Kd.C_below hrL (by repeat (first | (with_reducible first | exact HB.out | apply below_alloc | apply below_drew | apply pw_below_drewN | apply below_drew1) | exact HB.out)))).mono ?_); rintro e w3 ⟨rfl, hb⟩; refine ⟨_, rfl, ?_⟩; have n1_ := Aside0.mk (below_step (by repeat (first | (with_reducible first | exact HB.out | apply below_alloc | apply below_drew | apply pw_below_drewN | apply below_drew1) | exact HB.out)) hb); clear HB; have HB := n1_; clear n1_; clear hb))
      go_ret
      exact ⟨by first | rfl | (simp; done) | (simp [*]; done), (by repeat (first | (with_reducible first | exact HB.out | apply below_alloc | apply below_drew | apply pw_below_drewN | apply below_drew1) | exact HB.out))⟩
set_option maxHeartbeats 8000000 in
set_option maxRecDepth 100000 in
theorem fixSum_long (A0 : Option Addr) (c0 n0 : Nat) (L : List Int) (w : World) (hL : Aside0 (Lq w)) (h40 : 40 < n0) (hn : n0 ≤ c0) (hc : c0 ≤ 9223372036854775807) (hrL : Kd.C (Kd.int .i64) w A0 40 L) (hlen : L.length = 40) (hw : ∀ x, x ∈ L → -9223372036854775808 ≤ x ∧ x ≤ 9223372036854775807) :
    Calls Tryd.prog 3 #[.slice A0 n0 c0] w fun e w' => e = .returned (.bool true) ∧ Below w.heap.size w w' := by
  have HB := Aside0.mk (Below.refl w.heap.size w)
  have k40 : decide (40 < (n0 : Int)) = true := decide_eq_true (by omega)
  have hcL : L.length ≤ c0 := by omega
  have g1 : (40 ≤ c0) = True := eq_true (by omega)
  have g2 : ((40 : Int) ≤ (c0 : Int)) = True := eq_true (by omega)
  go_enter Tryd.func3, Tryd.ntmps3
  go_upto_block 0 with (first | ((with_reducible refine gate_callee (f := 9) rfl ?_); refine goesL_ (some 12) rfl rfl Tryd.func9 (by kernel_rfl) rfl #[] rfl (by (try simp only [List.map_toArray, List.map_cons, List.map_nil]); first | done | rfl) ?_; (refine (EFix.counterpanelaw1_begun.calls (hL := ⟨hL.out.below HB.out⟩) 300 true _ (begun_f 300 (by decide))).mono ?_); rintro e w9 ⟨rfl, hb⟩; refine ⟨_, rfl, ?_⟩; have n1_ := Aside0.mk (below_step HB.out hb); clear HB; have HB := n1_; clear n1_; clear hb))
  (try simp only [Act.put, List.setIfInBounds_toArray, List.set_cons_zero, List.set_cons_succ])
  go_wp2
  go_loopg [4, 5] 100 (fun kq v4 v5 w' => ∃ j : Nat, v5 = .int .i64 ((j : Int) - 1) ∧ j ≤ L.length ∧ j < kq ∧ Aside0 (w'.ownsRow w.heap.size 24 1 v4 ((L.drop j).reverse).length (nums .i64 (L.drop j).reverse)) ∧ Aside0 (Below w.heap.size w w'))
  case atStart => exact ⟨L.length, by first | rfl | (simp; done) | (simp [*]; done), Nat.le_refl _, by omega, ⟨by rw [List.drop_length]; exact own_nil _ _ _ _⟩, HB⟩
  case round =>
    clear HB
    obtain ⟨j, rfl, hj, hk, HO, HB⟩ := hrel
    cases j with
    | succ j =>
      have e0 : (((j + 1 : Nat) : Int) - 1) = (j : Int) := by omega
      rw [e0]
      obtain ⟨k2, rfl⟩ : ∃ k2, gk = k2 + 1 := ⟨gk - 1, by omega⟩
      have k1 : decide (0 ≤ (j : Int)) = true := decide_eq_true (by omega)
      have p1 : (0 ≤ (j : Int)) = True := eq_true (by omega)
      have q1 : ((j : Int) < (40 : Int)) = True := eq_true (by omega)
      have q2 : (j < 40) = True := eq_true (by omega)
      obtain ⟨ad, e1, hx0⟩ := Kd.at_int (Kd.C_below hrL HB.out) (j : Int) (by omega) (by omega)
      cases e1
      have er : rd L (j : Int) = L[j] := by simp [rd, show j < L.length by omega]
      rw [er, Int.toNat_natCast] at hx0
      obtain ⟨y, ey⟩ : ∃ y, L[j] = y := ⟨_, rfl⟩
      rw [ey] at hx0
      have hdr : (L.drop j).reverse = (L.drop (j + 1)).reverse ++ [y] := by rw [List.drop_eq_getElem_cons (show j < L.length by omega), List.reverse_cons, ey]
      obtain ⟨xs, hxs⟩ : ∃ xs, (L.drop (j + 1)).reverse = xs := ⟨_, rfl⟩
      have hxl : xs.length ≤ 40 := by rw [← hxs]; simp; omega
      rw [hxs] at HO hdr
      clear hxs er ey
      go_wp2_with (first
        | ((with_reducible refine gate_builtin (b := .append) (xs := #[.tmp 27, .tmp 32]) rfl ?_); at_builtin; refine print_append_num (w0 := w) w.heap.size rfl (.tmp 27) (.tmp 32) 22 24 .i64 8 rfl Tryd.underlying22 (by kernel_rfl) (by decide) _ xs y rfl rfl HO.out HB.out (below_size HB.out) (by omega) ?_; intro v1 w1 hown hb hg hat; have n0_ := Aside0.mk hown; have n1_ := Aside0.mk hb; clear HO HB; have HO := n0_; have HB := n1_; clear n0_ n1_; clear hown hb hg hat))
      go_roundg k2
      case measure => omega
      case rel => exact ⟨j, by first | rfl | (simp; done), by omega, by omega, ⟨by rw [hdr]; exact HO.out⟩, HB⟩
    | zero =>
      have e0 : (((0 : Nat) : Int) - 1) = -1 := rfl
      rw [e0]
      rw [List.drop_zero] at HO
      have hRl : L.reverse.length = L.length := List.length_reverse
      have hRw : ∀ x, x ∈ L.reverse → -9223372036854775808 ≤ x ∧ x ≤ 9223372036854775807 := fun a ha => hw a (List.mem_reverse.mp ha)
      have hRs := sum_reverse L
      obtain ⟨R, hRv⟩ : ∃ R, L.reverse = R := ⟨_, rfl⟩
      rw [hRv] at HO hRl hRw hRs
      clear hRv
      obtain ⟨A1, c1, e1, hR1⟩ := own_reads HO.out
      subst e1
      have hc1 : R.length ≤ c1 := own_cap HO.out
      have hC1 : Kd.C (Kd.int .i64) wr A1 R.length R := Kd.C_of_reads (d := (0 : Int)) (ReadsOf_of_int hR1)
      clear HO hR1
      have hs1 := sum_f L (by omega) hw 50 (by omega)
      have hs2 := sum_f R (by omega) hRw 50 (by omega)
      have hs3 : counterpaneref1_Sum.f L = some (sumS L.sum) := by
        unfold counterpaneref1_Sum.f
        rw [if_pos ⟨by omega, hw⟩, endW_sum L (by omega) hw]
      rw [hRs] at hs2
      obtain ⟨⟨r1, r2⟩, er⟩ : ∃ r, sumS L.sum = r := ⟨_, rfl⟩
      rw [er] at hs1 hs2 hs3
      have x1 : (r1 == r1) = true := beq_self_eq_true r1
      have x2 : (r2 == r2) = true := beq_self_eq_true r2
      have hS1 := fun w' (h : Kd.C (Kd.int .i64) w' A0 L.length L) => EFix.fixnum_Sum.calls 50 A0 c0 L r1 r2 w' h hcL hs1
      have hS3 := fun w' (h : Kd.C (Kd.int .i64) w' A0 L.length L) => counterpaneref1_Sum.calls A0 c0 L r1 r2 w' h hcL hs3
      simp only [hlen] at hS1 hS3
      clear er hRl hRw hRs hs1 hs3
      go_wp2_with (first
        | ((with_reducible refine gate_callee (f := 10) rfl ?_); refine goesL_ (some 36) rfl rfl Tryd.func10 (by kernel_rfl) rfl #[.slice A0 40 c0] rfl (by (try simp only [List.map_toArray, List.map_cons, List.map_nil]); first | done | rfl) ?_; (refine (hS1 _ (Kd.C_below hrL (by repeat (first | (with_reducible first | exact HB.out | apply below_alloc | apply below_drew | apply pw_below_drewN | apply below_drew1) | exact HB.out)))).mono ?_); rintro e w1 ⟨rfl, ⟨nd, rfl⟩⟩; refine ⟨_, rfl, ?_⟩)
        | ((with_reducible refine gate_callee (f := 10) rfl ?_); refine goesL_ (some 41) rfl rfl Tryd.func10 (by kernel_rfl) rfl #[.slice A1 R.length c1] rfl (by (try simp only [List.map_toArray, List.map_cons, List.map_nil]); first | done | rfl) ?_; (refine (EFix.fixnum_Sum.calls 50 A1 c1 R r1 r2 _ (by repeat (first | exact hC1 | refine Kd.C_drewN ?_ _ | refine Kd.C_drew ?_)) hc1 hs2).mono ?_); rintro e w1 ⟨rfl, ⟨nd, rfl⟩⟩; refine ⟨_, rfl, ?_⟩)
        | ((with_reducible refine gate_callee (f := 11) rfl ?_); refine goesL_ (some 46) rfl rfl Tryd.func11 (by kernel_rfl) rfl #[.slice A0 40 c0] rfl (by (try simp only [List.map_toArray, List.map_cons, List.map_nil]); first | done | rfl) ?_; (refine (hS3 _ (Kd.C_below hrL (by repeat (first | (with_reducible first | exact HB.out | apply below_alloc | apply below_drew | apply pw_below_drewN | apply below_drew1) | exact HB.out)))).mono ?_); rintro e w3 ⟨rfl, hb⟩; refine ⟨_, rfl, ?_⟩; have n1_ := Aside0.mk (below_step (by repeat (first | (with_reducible first | exact HB.out | apply below_alloc | apply below_drew | apply pw_below_drewN | apply below_drew1) | exact HB.out)) hb); clear HB; have HB := n1_; clear n1_; clear hb))
      go_ret
      exact ⟨by first | rfl | (simp; done) | (simp [*]; done), (by repeat (first | (with_reducible first | exact HB.out | apply below_alloc | apply below_drew | apply pw_below_drewN | apply below_drew1) | exact HB.out))⟩
theorem fixSum_walk {W : World} (a : Option Addr) (len cap : Nat) (z : List Int) (hz : (a = none ∧ len = 0 ∧ cap = 0 ∧ z = []) ∨ ∃ x, a = some x ∧ len ≤ cap ∧ cap ≤ maxLen ∧ z.length = cap ∧ (∀ i, i < z.length → W.cell? (x.add i) = some (.int .i64 (z.getD i 0))) ∧ ∀ n ∈ z, (Lit.int .i64 n).wf = true) (hL : Aside0 (Lq W)) :
    Calls Tryd.prog 3 #[.slice a len cap] W fun e w' => e = .returned (.bool true) ∧ Below W.heap.size W w' := by
  have hcm : cap ≤ 9223372036854775807 := by
    rcases hz with ⟨_, _, h, _⟩ | ⟨_, _, _, h, _⟩
    · omega
    · unfold maxLen at h; omega
  obtain ⟨l, rfl, hr, hm, hwf, hc⟩ := ReadsInt.ofRowC hz
  have hw : ∀ x, x ∈ l → -9223372036854775808 ≤ x ∧ x ≤ 9223372036854775807 := fun x hx => nat_wf (hwf x hx)
  have hC : Kd.C (Kd.int .i64) W a l.length l := Kd.C_of_reads (d := (0 : Int)) (ReadsOf_of_int hr)
  by_cases h : 40 < l.length
  · have ht := Kd.C_take hC (m := 40) (by omega)
    have e : (l.take 40).length = 40 := by rw [List.length_take]; omega
    rw [e] at ht
    exact fixSum_long a cap l.length (l.take 40) W hL h hc hcm ht e (fun x hx => hw x (List.mem_of_mem_take hx))
  · exact fixSum_short a cap l W hL hC hc (by omega) hw
end Go.Proofs.YtkcncfikejepdaaDoor.Ext
