/- The walk of NetAll. -/
import Derived.Test.YtlfckoeolcnniaaNetL
namespace Go.Proofs.Ytlfckoeolcnniaa.Net
open Go.RowKit Go.Proofs.YtlfckoeolcnniaaW.PrintWords Go.Proofs.YtlfckoeolcnniaaW.PrintLast Go.Proofs.YtlfckoeolcnniaaW.PrintMore
set_option linter.unusedVariables false
set_option linter.unusedSimpArgs false
set_option maxHeartbeats 16000000 in
set_option maxRecDepth 100000 in
theorem all_calls (fin : Int) (vo : Value) (w : World) (ho : InO w vo) (hfw : (Lit.int .i64 fin).wf = true) : Calls Try.prog 5 #[vo, .int .i64 fin] w fun e w' => e = .returned (.bool true) ∧ Below w.heap.size w w' := by
  have HB := Aside0.mk (Below.refl w.heap.size w)
  have HO := Aside0.mk ho
  clear ho
  go_enter Try.func5, Try.ntmps5
  go_wp2_with (first
    | ((with_reducible refine gate_callee (f := 12) rfl ?_); refine goesL_ (some 21) rfl rfl Try.func12 (by kernel_rfl) rfl #[] rfl (by (try simp only [List.map_toArray, List.map_cons, List.map_nil]); first | done | rfl) ?_; (with_reducible refine (begun_calls _).mono ?_); rintro e w1 ⟨rfl, hb⟩; refine ⟨_, rfl, ?_⟩; have B1 := Aside0.mk hb; clear hb)
    | ((with_reducible refine gate_callee (f := 13) rfl ?_); refine goesL_ (some 24) rfl rfl Try.func13 (by kernel_rfl) rfl #[] rfl (by (try simp only [List.map_toArray, List.map_cons, List.map_nil]); first | done | rfl) ?_; (with_reducible refine (new_calls _).mono ?_); rintro e w2 ⟨p, rfl, hp, hb, hbel⟩; refine ⟨_, rfl, ?_⟩; have N2 : Aside0 (NetHas w2 w.heap.size p (.slice none 0 0) []) := ⟨⟨Nat.le_trans B1.out.size hp, hb, World.ownsRow_nil _ _ _ _, by simp⟩⟩; have B2 := Aside0.mk (below_step B1.out hbel); clear hb hbel hp; refine hold ?_))
  unfold Hold
  rename_i K1 hK1
  have key : ∀ a' w', a' = ({ tmps := #[vo, .int .i64 fin, undef, undef, .bool false, .bool true, .pointer (some ⟨p, 0, none⟩), undef, undef, undef, undef, undef, undef, undef, undef, undef, undef, undef, undef, undef, undef, .bool true, .bool true, .bool false, .pointer (some ⟨p, 0, none⟩), undef, undef, undef, undef, undef, undef, undef, undef, undef, undef, undef, undef, undef, undef, undef, undef, undef, undef, undef, undef, undef, undef, undef, undef, undef, undef, undef, undef, undef, undef, undef, undef, undef, undef, undef, undef, undef, undef, undef, undef, undef, undef, undef, undef, undef, undef, undef, undef, undef, undef, undef, undef, undef, undef, undef, undef, undef, undef, undef, undef, undef, undef, undef, undef, undef, undef, undef, undef, undef, undef, undef, undef, undef, undef, undef, undef, undef, undef, undef, undef, undef, undef, undef, undef, undef, undef, undef, undef, undef, undef, undef, undef, undef, undef, undef, undef, undef, undef, undef, undef, undef, undef, undef, undef, undef, undef, undef, undef, undef, undef, undef, undef, undef, undef, undef, undef, undef, undef, undef, undef, undef, undef, undef, undef, undef, undef, undef, undef, undef, undef, undef, undef, undef, undef, undef, undef, undef, undef, undef, undef, undef, undef, undef, undef, undef, undef, undef, undef, undef, undef, undef, undef, undef, undef, undef, undef, undef, undef, undef, undef, undef, undef, undef, undef, undef, undef, undef, undef, undef, undef, undef, undef, undef, undef, undef, undef, undef, undef, undef, undef, undef, undef, undef, undef, undef, undef, undef, undef, undef, undef, undef, undef, undef, undef, undef, undef, undef, undef, undef, undef, undef, undef, undef, undef, undef, undef, undef, undef, undef, undef, undef, undef, undef, undef, undef, undef, undef, undef, undef, undef], defers := [] } : Act) → w' = w2 → K1 a' w' := by
    intro a' w' ha hw
    rw [ha, hw]
    clear ha hw a' w'
    obtain ⟨Mid, hMid⟩ : ∃ Mid : Act → World → Prop, ∀ a' w', Mid a' w' ↔ ∃ (u25 u26 u27 u28 u29 u30 : Value) (fill : Nat), fill ≤ 300 ∧ a' = ({ tmps := #[vo, .int .i64 (fill : Int), undef, undef, .bool false, .bool true, .pointer (some ⟨p, 0, none⟩), .slice none 0 0, undef, undef, undef, undef, undef, undef, undef, undef, undef, undef, undef, undef, undef, .bool true, .bool true, .bool false, .pointer (some ⟨p, 0, none⟩), u25, u26, u27, u28, u29, u30, undef, undef, undef, undef, undef, undef, undef, undef, undef, undef, undef, undef, undef, undef, undef, undef, undef, undef, undef, undef, undef, undef, undef, undef, undef, undef, undef, undef, undef, undef, undef, undef, undef, undef, undef, undef, undef, undef, undef, undef, undef, undef, undef, undef, undef, undef, undef, undef, undef, undef, undef, undef, undef, undef, undef, undef, undef, undef, undef, undef, undef, undef, undef, undef, undef, undef, undef, undef, undef, undef, undef, undef, undef, undef, undef, undef, undef, undef, undef, undef, undef, undef, undef, undef, undef, undef, undef, undef, undef, undef, undef, undef, undef, undef, undef, undef, undef, undef, undef, undef, undef, undef, undef, undef, undef, undef, undef, undef, undef, undef, undef, undef, undef, undef, undef, undef, undef, undef, undef, undef, undef, undef, undef, undef, undef, undef, undef, undef, undef, undef, undef, undef, undef, undef, undef, undef, undef, undef, undef, undef, undef, undef, undef, undef, undef, undef, undef, undef, undef, undef, undef, undef, undef, undef, undef, undef, undef, undef, undef, undef, undef, undef, undef, undef, undef, undef, undef, undef, undef, undef, undef, undef, undef, undef, undef, undef, undef, undef, undef, undef, undef, undef, undef, undef, undef, undef, undef, undef, undef, undef, undef, undef, undef, undef, undef, undef, undef, undef, undef, undef, undef, undef, undef, undef, undef, undef, undef, undef, undef, undef, undef, undef, undef, undef], defers := [] } : Act) ∧ w' = w2 := ⟨_, fun _ _ => Iff.rfl⟩
    apply hK1
    refine wp_cut2 Mid ?_ ?_
    · intro K2 hK2
      clear hK1
      by_cases f0 : fin < 0
      · have d1 : decide (fin < 0) = true := decide_eq_true f0
        go_wp2
        exact ⟨_, _, _, _, _, _, 0, by omega, rfl, rfl, rfl, rfl, rfl, rfl, rfl⟩
      · have d1 : decide (fin < 0) = false := decide_eq_false f0
        by_cases f1 : 300 < fin
        · have d2 : decide (300 < fin) = true := decide_eq_true f1
          go_wp2
          exact ⟨_, _, _, _, _, _, 0, by omega, rfl, rfl, rfl, rfl, rfl, rfl, rfl⟩
        · have d2 : decide (300 < fin) = false := decide_eq_false f1
          go_wp2
          exact ⟨_, _, _, _, _, _, fin.toNat, by omega, by omega, rfl, rfl, rfl, rfl, rfl, rfl⟩
    · intro a' w' hm
      obtain ⟨u25, u26, u27, u28, u29, u30, fill, hn, ha, hw⟩ := (hMid _ _).1 hm
      rw [ha, hw]
      clear hm hMid hK1 ha hw a' w'
      go_wp2
      go_loopg [7, 8] 400 (fun kq v7 v8 w' => ∃ (m : Nat) (v : Value) (L M : List Gr), v8 = .int .i64 (m : Int) ∧ m ≤ fill ∧ fill - m < kq ∧ Aside0 (Both w w' p v v7 L M))
      case atStart => exact ⟨0, _, [], [], rfl, Nat.zero_le _, by omega, ⟨Both.begin N2.out B2.out⟩⟩
      case round =>
        clear N2 B2 B1 HB
        obtain ⟨m, v, L, M, rfl, hm, hk, H⟩ := hrel
        obtain ⟨Al, cl, rfl, hAl⟩ := H.out.own.len
        cases gk with
        | zero => omega
        | succ k2 =>
          by_cases c : m < fill
          · have q3 : decide ((m : Int) < (fill : Int)) = true := decide_eq_true (by omega)
            have q2 : IntKind.u8.wrap (m : Int) = (m : Int) % 256 := by rw [IntKind.wrap_u8]
            have q4 : IntKind.i64.wrap ((m : Int) + 1) = (m : Int) + 1 := by rw [IntKind.wrap_i64]; omega
            have hll := H.out.llen
            have hle := H.out.len
            by_cases c256 : M.length < 256
            · have d1 : decide ((256 : Int) < ((M.length + 1 : Nat) : Int)) = false := decide_eq_false (by omega)
              have d2 : decide ((256 : Int) < (M.length : Int) + 1) = false := decide_eq_false (by omega)
              go_wp2_with (first
                | ((with_reducible refine gate_callee (f := 14) rfl ?_); refine goesL_ (some 41) rfl rfl Try.func14 (by kernel_rfl) rfl #[.pointer (some ⟨p, 0, none⟩), .int .i64 (m : Int), .slice (some ⟨wr.heap.size, 0, none⟩) 1 1] rfl (by (try simp only [List.map_toArray, List.map_cons, List.map_nil]); first | done | rfl) ?_; (with_reducible refine (H.out.send1 (m : Int)).mono ?_); rintro e w3 ⟨rfl, v3, L3, x3, g5, o5, c5, w5, hr5, hc5, G5⟩; refine ⟨_, rfl, ?_⟩)
                | ((with_reducible refine gate_dst (N := 49) rfl ?_); (try (refine gate_guard (by rfl) ?_; dsimp only)); refine app_event (s := .tmp 42) (x := .tmp 48) (t := 33) rfl rfl (by rfl) (by rfl) hr5 ?_))
              go_roundg k2
              case measure => omega
              case rel => exact ⟨m + 1, v3, _, M ++ [_], by simp, by omega, by omega, ⟨G5.out.keep (by simp; omega)⟩⟩
            · have e256 : M.length = 256 := by omega
              have d1 : decide ((256 : Int) < ((M.length + 1 : Nat) : Int)) = true := decide_eq_true (by omega)
              have d2 : decide ((256 : Int) < (M.length : Int) + 1) = true := decide_eq_true (by omega)
              have E256 := Aside0.mk e256
              clear e256 hle c256 hll
              go_wp2_with (first
                | ((with_reducible refine gate_callee (f := 14) rfl ?_); refine goesL_ (some 41) rfl rfl Try.func14 (by kernel_rfl) rfl #[.pointer (some ⟨p, 0, none⟩), .int .i64 (m : Int), .slice (some ⟨wr.heap.size, 0, none⟩) 1 1] rfl (by (try simp only [List.map_toArray, List.map_cons, List.map_nil]); first | done | rfl) ?_; (with_reducible refine (H.out.send1 (m : Int)).mono ?_); rintro e w3 ⟨rfl, v3, L3, x3, g5, o5, c5, w5, hr5, hc5, G5⟩; refine ⟨_, rfl, ?_⟩)
                | ((with_reducible refine gate_dst (N := 49) rfl ?_); (try (refine gate_guard (by rfl) ?_; dsimp only)); refine app_event (s := .tmp 42) (x := .tmp 48) (t := 33) rfl rfl (by rfl) (by rfl) hr5 ?_))
              case inl => exfalso; have := E256.out; omega
              case inr =>
                go_roundg k2
                case measure => omega
                case rel => exact ⟨m + 1, v3, _, (M ++ [_]).drop 1, by simp, by omega, by omega, ⟨by have := G5.out.cut1 (by have := E256.out; simp; omega) (by have := E256.out; omega); rw [Nat.add_sub_cancel] at this; exact this⟩⟩
          · obtain rfl : m = fill := by omega
            have q3 : decide ((m : Int) < (m : Int)) = false := decide_eq_false (by omega)
            clear c
            obtain ⟨Ao, no, co, rfl, hno, hops⟩ := HO.out
            have OPS := Aside0.mk hops
            clear hops HO
            go_wp2
            go_loopg [7, 9] 60 (fun kq v7 v9 w' => ∃ (i : Nat) (v : Value) (L M : List Gr), v9 = .int .i64 (i : Int) ∧ i ≤ 50 ∧ 50 - i < kq ∧ Aside0 (Both w w' p v v7 L M))
            case atStart => exact ⟨0, v, L, M, rfl, by omega, by omega, H⟩
            case round =>
              clear H hAl
              obtain ⟨i, v, L, M, rfl, hi, hk, H⟩ := hrel
              obtain ⟨Al, cl, rfl, hAl⟩ := H.out.own.len
              cases gk with
              | zero => omega
              | succ k2 =>
                by_cases c : i < no ∧ i < 50
                · have q3 : decide ((i : Int) < (no : Int)) = true := decide_eq_true (by omega)
                  have q5 : decide ((i : Int) < 50) = true := decide_eq_true (by omega)
                  have q4 : IntKind.i64.wrap ((i : Int) + 1) = (i : Int) + 1 := by rw [IntKind.wrap_i64]; omega
                  obtain ⟨ao, rfl, hcell⟩ := OPS.out (by omega)
                  obtain ⟨kd, k, u, hc0, hw0, hc1, hw1, hc2, hub⟩ := hcell i c.1
                  have k0 : wr.cell? (ao.add (i * 3)) = some (.int .i64 kd) := (H.out.bel.cell (World.block_lt_of_cell? w _ hc0)).trans hc0
                  have k1 : wr.cell? ⟨(ao.add (i * 3)).block, (ao.add (i * 3)).off + 1, none⟩ = some (.int .i64 k) := (H.out.bel.cell (World.block_lt_of_cell? w _ hc1)).trans hc1
                  have k2' : wr.cell? ⟨(ao.add (i * 3)).block, (ao.add (i * 3)).off + 2, none⟩ = some u := (H.out.bel.cell (World.block_lt_of_cell? w _ hc2)).trans hc2
                  obtain ⟨Au, us, cu, rfl, hur, hubb, huc, hul⟩ := hub.form
                  have UR := Aside0.mk hur
                  have UB := Aside0.mk hubb
                  clear hcell hc0 hc1 hc2 hub hur hubb
                  have CL := H.out.own.cap
                  rename_i a5 hkx q3x K2 a4 K1 a3 Jx Kx a2 a1 a0
                  clear a4 a5 hkx q3x a1 a3
                  by_cases e2 : kd = 2
                  · subst e2
                    by_cases cin : 0 ≤ k ∧ k < M.length
                    · as_aux_lemma =>
                      obtain ⟨K, rfl⟩ := Int.eq_ofNat_of_zero_le cin.1
                      have hK : K < M.length := by omega
                      obtain ⟨gl, ol, rfl⟩ := hAl (by omega)
                      have d1 : decide ((0 : Int) ≤ (K : Int)) = true := decide_eq_true (by omega)
                      have d2 : decide ((K : Int) < (M.length : Int)) = true := decide_eq_true (by omega)
                      have d4 : IntKind.i64.wrap ((K : Int) + 1) = ((K + 1 : Nat) : Int) := by rw [IntKind.wrap_i64]; have := H.out.len; omega
                      have d5 : decide ((256 : Int) < ((M.length - 1 : Nat) : Int)) = false := decide_eq_false (by have := H.out.len; omega)
                      have OB := Aside0.mk (blk_new wr (.cells #[.int .i64 2, .int .i64 (K : Int), .slice Au us.length cu] 37))
                      have HA := Aside0.mk (H.out.below (below_alloc (Below.refl _ _) (.cells #[.int .i64 2, .int .i64 (K : Int), .slice Au us.length cu] 37)))
                      clear cin
                      go_wp2_with (first
                        | ((with_reducible refine gate_callee (f := 18) rfl ?_); refine goesL_ (some 200) rfl rfl Try.func18 (by kernel_rfl) rfl #[.pointer (some ⟨p, 0, none⟩), .int .i64 (K : Int)] rfl (by (try simp only [List.map_toArray, List.map_cons, List.map_nil]); first | done | rfl) ?_; (with_reducible refine (HA.out.drop hK).mono ?_); rintro e w3 ⟨rfl, v3, m3, w4, A5, c5, w5, hr4, hr5, G5, O3, O4⟩; refine ⟨_, rfl, ?_⟩; have C3 : w3.cell? ⟨wr.heap.size, 1, none⟩ = some (.int .i64 (K : Int)) := O3.out.cell OB.out 1; have C4 : w4.cell? ⟨wr.heap.size, 1, none⟩ = some (.int .i64 (K : Int)) := O4.out.cell OB.out 1)
                        | ((with_reducible refine gate_dst (N := 208) rfl ?_); (try (refine gate_guard (by rfl) ?_; dsimp only)); refine app_event (s := .const (.slice none 0 0)) (x := .tmp 207) (t := 33) rfl rfl (by rfl) (by rfl) hr4 ?_)
                        | ((with_reducible refine gate_dst (N := 215) rfl ?_); (try (refine gate_guard (by rfl) ?_; dsimp only)); by_cases hcK : cl = K + 1 <;> (first | rw [if_pos hcK] | rw [if_neg hcK]) <;> refine app_event (s := .tmp 209) (x := .tmp 214) (t := 33) rfl rfl (by rfl) (by rfl) (hr5 _ _ _ (by first | rw [if_pos hcK] | rw [if_neg hcK]) (by omega) (by omega)) ?_)
                        | ((with_reducible refine gate_callee (f := 15) rfl ?_); (try (refine gate_guard (by rfl) ?_; dsimp only)); refine goesL_ (some 240) rfl rfl Try.func15 (by kernel_rfl) rfl #[.pointer (some ⟨p, 0, none⟩)] rfl (by (try simp only [List.map_toArray, List.map_cons, List.map_nil]); first | done | rfl) ?_; (with_reducible refine (G5.out.lenc (M.length - 1) (by rw [List.length_eraseIdx, if_pos hK]; have := H.out.len; omega)).mono ?_); rintro e w6 ⟨rfl, hw6⟩; rw [hw6]; clear hw6 w6; refine ⟨_, rfl, ?_⟩))
                      all_goals (go_roundg k2; (case measure => omega); (case rel => exact ⟨i + 1, v3, _, _, by simp, by omega, by omega, ⟨G5.out.keep (by rw [List.length_eraseIdx, if_pos hK]; have := H.out.len; omega)⟩⟩))
                    · by_cases c0 : k < 0
                      · as_aux_lemma =>
                        have d1 : decide ((0 : Int) ≤ k) = false := decide_eq_false (by omega)
                        have d5 : decide ((256 : Int) < (M.length : Int)) = false := decide_eq_false (by have := H.out.len; omega)
                        have OB := Aside0.mk (blk_new wr (.cells #[.int .i64 2, .int .i64 k, .slice Au us.length cu] 37))
                        have HA := Aside0.mk (H.out.below (below_alloc (Below.refl _ _) (.cells #[.int .i64 2, .int .i64 k, .slice Au us.length cu] 37)))
                        obtain ⟨An, cn, rfl⟩ := own_shape HA.out.net.row
                        have EL := Aside0.mk HA.out.llen
                        have KO : Aside0 (k < 0 ∨ (L.length : Int) ≤ k) := ⟨by have := EL.out; omega⟩
                        have C3 : (wr.alloc (.cells #[.int .i64 2, .int .i64 k, .slice Au us.length cu] 37)).cell? ⟨wr.heap.size, 1, none⟩ = some (.int .i64 k) := blk_cell OB.out 1
                        clear cin c0
                        go_wp2_with (first
                          | ((with_reducible refine gate_callee (f := 18) rfl ?_); refine goesL_ (some 200) rfl rfl Try.func18 (by kernel_rfl) rfl #[.pointer (some ⟨p, 0, none⟩), .int .i64 k] rfl (by (try simp only [List.map_toArray, List.map_cons, List.map_nil]); first | done | rfl) ?_; (with_reducible refine (drop_out _ p L.length cn An k HA.out.net.blk KO.out).mono ?_); rintro e w3 ⟨rfl, hw3⟩; rw [hw3]; clear hw3 w3; refine ⟨_, rfl, ?_⟩)
                          | ((with_reducible refine gate_callee (f := 15) rfl ?_); (try (refine gate_guard (by rfl) ?_; dsimp only)); refine goesL_ (some 240) rfl rfl Try.func15 (by kernel_rfl) rfl #[.pointer (some ⟨p, 0, none⟩)] rfl (by (try simp only [List.map_toArray, List.map_cons, List.map_nil]); first | done | rfl) ?_; (with_reducible refine (HA.out.grown.lenc M.length (by have := H.out.len; omega)).mono ?_); rintro e w6 ⟨rfl, hw6⟩; rw [hw6]; clear hw6 w6; refine ⟨_, rfl, ?_⟩))
                        all_goals (go_roundg k2; (case measure => omega); (case rel => exact ⟨i + 1, _, _, _, by simp, by omega, by omega, HA⟩))
                      · as_aux_lemma =>
                        have d1 : decide ((0 : Int) ≤ k) = true := decide_eq_true (by omega)
                        have d2 : decide (k < (M.length : Int)) = false := decide_eq_false (by omega)
                        have d5 : decide ((256 : Int) < (M.length : Int)) = false := decide_eq_false (by have := H.out.len; omega)
                        have OB := Aside0.mk (blk_new wr (.cells #[.int .i64 2, .int .i64 k, .slice Au us.length cu] 37))
                        have HA := Aside0.mk (H.out.below (below_alloc (Below.refl _ _) (.cells #[.int .i64 2, .int .i64 k, .slice Au us.length cu] 37)))
                        obtain ⟨An, cn, rfl⟩ := own_shape HA.out.net.row
                        have EL := Aside0.mk HA.out.llen
                        have KO : Aside0 (k < 0 ∨ (L.length : Int) ≤ k) := ⟨by have := EL.out; omega⟩
                        have C3 : (wr.alloc (.cells #[.int .i64 2, .int .i64 k, .slice Au us.length cu] 37)).cell? ⟨wr.heap.size, 1, none⟩ = some (.int .i64 k) := blk_cell OB.out 1
                        clear cin c0
                        go_wp2_with (first
                          | ((with_reducible refine gate_callee (f := 18) rfl ?_); refine goesL_ (some 200) rfl rfl Try.func18 (by kernel_rfl) rfl #[.pointer (some ⟨p, 0, none⟩), .int .i64 k] rfl (by (try simp only [List.map_toArray, List.map_cons, List.map_nil]); first | done | rfl) ?_; (with_reducible refine (drop_out _ p L.length cn An k HA.out.net.blk KO.out).mono ?_); rintro e w3 ⟨rfl, hw3⟩; rw [hw3]; clear hw3 w3; refine ⟨_, rfl, ?_⟩)
                          | ((with_reducible refine gate_callee (f := 15) rfl ?_); (try (refine gate_guard (by rfl) ?_; dsimp only)); refine goesL_ (some 240) rfl rfl Try.func15 (by kernel_rfl) rfl #[.pointer (some ⟨p, 0, none⟩)] rfl (by (try simp only [List.map_toArray, List.map_cons, List.map_nil]); first | done | rfl) ?_; (with_reducible refine (HA.out.grown.lenc M.length (by have := H.out.len; omega)).mono ?_); rintro e w6 ⟨rfl, hw6⟩; rw [hw6]; clear hw6 w6; refine ⟨_, rfl, ?_⟩))
                        all_goals (go_roundg k2; (case measure => omega); (case rel => exact ⟨i + 1, _, _, _, by simp, by omega, by omega, HA⟩))
                  by_cases e1 : kd = 1
                  · subst e1
                    by_cases cin : 0 ≤ k ∧ k < M.length
                    · as_aux_lemma =>
                      obtain ⟨K, rfl⟩ := Int.eq_ofNat_of_zero_le cin.1
                      have hK : K < M.length := by omega
                      obtain ⟨gl, ol, rfl⟩ := hAl (by omega)
                      have d1 : decide ((0 : Int) ≤ (K : Int)) = true := decide_eq_true (by omega)
                      have d2 : decide ((K : Int) < (M.length : Int)) = true := decide_eq_true (by omega)
                      have d4 : IntKind.i64.wrap ((K : Int) + 1) = ((K + 1 : Nat) : Int) := by rw [IntKind.wrap_i64]; have := H.out.len; omega
                      have d5 : decide ((256 : Int) < ((M.length - 1 : Nat) : Int)) = false := decide_eq_false (by have := H.out.len; omega)
                      have OB := Aside0.mk (blk_new wr (.cells #[.int .i64 1, .int .i64 (K : Int), .slice Au us.length cu] 37))
                      have HA := Aside0.mk (H.out.below (below_alloc (Below.refl _ _) (.cells #[.int .i64 1, .int .i64 (K : Int), .slice Au us.length cu] 37)))
                      clear cin
                      go_wp2_with (first
                        | ((with_reducible refine gate_callee (f := 16) rfl ?_); refine goesL_ (some 150) rfl rfl Try.func16 (by kernel_rfl) rfl #[.pointer (some ⟨p, 0, none⟩), .int .i64 (K : Int)] rfl (by (try simp only [List.map_toArray, List.map_cons, List.map_nil]); first | done | rfl) ?_; (with_reducible refine (HA.out.take hK).mono ?_); rintro e w3 ⟨dd, vb, ux, str, rfl, v3, m3, w4, A5, c5, w5, hr4, hr5, G5, O3, O4, R1, R2, R3⟩; refine ⟨_, rfl, ?_⟩; have C3 : w3.cell? ⟨wr.heap.size, 1, none⟩ = some (.int .i64 (K : Int)) := O3.out.cell OB.out 1; have C4 : w4.cell? ⟨wr.heap.size, 1, none⟩ = some (.int .i64 (K : Int)) := O4.out.cell OB.out 1; have q5 : (!str.toList == str.toList) = false := by simp))
                      go_region_held_law (fun w' => (convert 27 9 vb).run Try.prog w' = .ok (.string str) w' ∧ (convert 27 9 ux).run Try.prog w' = .ok (.string str) w' ∧ w'.cell? ⟨gl, ol + K * 2, none⟩ = some (.int .i64 dd) ∧ w'.cell? ⟨gl, ol + K * 2 + 1, none⟩ = some ux ∧ w'.cell? ⟨wr.heap.size, 1, none⟩ = some (.int .i64 (K : Int))) (exact ⟨R1.out _ (below_drew (Below.refl _ _)), R2.out _ (below_drew (Below.refl _ _)), R3.out.1, R3.out.2, C3⟩) (fail)
                      go_wp2_with (first
                        | ((with_reducible refine gate_dst (N := 187) rfl ?_); (try (refine gate_guard (by rfl) ?_; dsimp only)); refine app_event (s := .const (.slice none 0 0)) (x := .tmp 186) (t := 33) rfl rfl (by rfl) (by rfl) hr4 ?_)
                        | ((with_reducible refine gate_dst (N := 194) rfl ?_); (try (refine gate_guard (by rfl) ?_; dsimp only)); by_cases hcK : cl = K + 1 <;> (first | rw [if_pos hcK] | rw [if_neg hcK]) <;> refine app_event (s := .tmp 188) (x := .tmp 193) (t := 33) rfl rfl (by rfl) (by rfl) (hr5 _ _ _ (by first | rw [if_pos hcK] | rw [if_neg hcK]) (by omega) (by omega)) ?_)
                        | ((with_reducible refine gate_callee (f := 15) rfl ?_); (try (refine gate_guard (by rfl) ?_; dsimp only)); refine goesL_ (some 240) rfl rfl Try.func15 (by kernel_rfl) rfl #[.pointer (some ⟨p, 0, none⟩)] rfl (by (try simp only [List.map_toArray, List.map_cons, List.map_nil]); first | done | rfl) ?_; (with_reducible refine (G5.out.lenc (M.length - 1) (by rw [List.length_eraseIdx, if_pos hK]; have := H.out.len; omega)).mono ?_); rintro e w6 ⟨rfl, hw6⟩; rw [hw6]; clear hw6 w6; refine ⟨_, rfl, ?_⟩))
                      all_goals (go_roundg k2; (case measure => omega); (case rel => exact ⟨i + 1, v3, _, _, by simp, by omega, by omega, ⟨G5.out.keep (by rw [List.length_eraseIdx, if_pos hK]; have := H.out.len; omega)⟩⟩))
                    · by_cases c0 : k < 0
                      · as_aux_lemma =>
                        have d1 : decide ((0 : Int) ≤ k) = false := decide_eq_false (by omega)
                        have d5 : decide ((256 : Int) < (M.length : Int)) = false := decide_eq_false (by have := H.out.len; omega)
                        have OB := Aside0.mk (blk_new wr (.cells #[.int .i64 1, .int .i64 k, .slice Au us.length cu] 37))
                        have HA := Aside0.mk (H.out.below (below_alloc (Below.refl _ _) (.cells #[.int .i64 1, .int .i64 k, .slice Au us.length cu] 37)))
                        obtain ⟨An, cn, rfl⟩ := own_shape HA.out.net.row
                        have EL := Aside0.mk HA.out.llen
                        have KO : Aside0 (k < 0 ∨ (L.length : Int) ≤ k) := ⟨by have := EL.out; omega⟩
                        have C3 : (wr.alloc (.cells #[.int .i64 1, .int .i64 k, .slice Au us.length cu] 37)).cell? ⟨wr.heap.size, 1, none⟩ = some (.int .i64 k) := blk_cell OB.out 1
                        clear cin c0
                        go_wp2_with (first
                          | ((with_reducible refine gate_callee (f := 16) rfl ?_); refine goesL_ (some 150) rfl rfl Try.func16 (by kernel_rfl) rfl #[.pointer (some ⟨p, 0, none⟩), .int .i64 k] rfl (by (try simp only [List.map_toArray, List.map_cons, List.map_nil]); first | done | rfl) ?_; (with_reducible refine (take_out _ p L.length cn An k HA.out.net.blk KO.out).mono ?_); rintro e w3 ⟨rfl, hw3⟩; rw [hw3]; clear hw3 w3; refine ⟨_, rfl, ?_⟩)
                          | ((with_reducible refine gate_callee (f := 15) rfl ?_); (try (refine gate_guard (by rfl) ?_; dsimp only)); refine goesL_ (some 240) rfl rfl Try.func15 (by kernel_rfl) rfl #[.pointer (some ⟨p, 0, none⟩)] rfl (by (try simp only [List.map_toArray, List.map_cons, List.map_nil]); first | done | rfl) ?_; (with_reducible refine (HA.out.grown.lenc M.length (by have := H.out.len; omega)).mono ?_); rintro e w6 ⟨rfl, hw6⟩; rw [hw6]; clear hw6 w6; refine ⟨_, rfl, ?_⟩))
                        go_quiet (fail)
                        have HA := Aside0.mk (HA.out.below (below_drewN (Below.refl _ _) nq))
                        go_wp2_with (first
                          | ((with_reducible refine gate_callee (f := 15) rfl ?_); (try (refine gate_guard (by rfl) ?_; dsimp only)); refine goesL_ (some 240) rfl rfl Try.func15 (by kernel_rfl) rfl #[.pointer (some ⟨p, 0, none⟩)] rfl (by (try simp only [List.map_toArray, List.map_cons, List.map_nil]); first | done | rfl) ?_; (with_reducible refine (HA.out.grown.lenc M.length (by have := H.out.len; omega)).mono ?_); rintro e w6 ⟨rfl, hw6⟩; rw [hw6]; clear hw6 w6; refine ⟨_, rfl, ?_⟩))
                        all_goals (go_roundg k2; (case measure => omega); (case rel => exact ⟨i + 1, _, _, _, by simp, by omega, by omega, HA⟩))
                      · as_aux_lemma =>
                        have d1 : decide ((0 : Int) ≤ k) = true := decide_eq_true (by omega)
                        have d2 : decide (k < (M.length : Int)) = false := decide_eq_false (by omega)
                        have d5 : decide ((256 : Int) < (M.length : Int)) = false := decide_eq_false (by have := H.out.len; omega)
                        have OB := Aside0.mk (blk_new wr (.cells #[.int .i64 1, .int .i64 k, .slice Au us.length cu] 37))
                        have HA := Aside0.mk (H.out.below (below_alloc (Below.refl _ _) (.cells #[.int .i64 1, .int .i64 k, .slice Au us.length cu] 37)))
                        obtain ⟨An, cn, rfl⟩ := own_shape HA.out.net.row
                        have EL := Aside0.mk HA.out.llen
                        have KO : Aside0 (k < 0 ∨ (L.length : Int) ≤ k) := ⟨by have := EL.out; omega⟩
                        have C3 : (wr.alloc (.cells #[.int .i64 1, .int .i64 k, .slice Au us.length cu] 37)).cell? ⟨wr.heap.size, 1, none⟩ = some (.int .i64 k) := blk_cell OB.out 1
                        clear cin c0
                        go_wp2_with (first
                          | ((with_reducible refine gate_callee (f := 16) rfl ?_); refine goesL_ (some 150) rfl rfl Try.func16 (by kernel_rfl) rfl #[.pointer (some ⟨p, 0, none⟩), .int .i64 k] rfl (by (try simp only [List.map_toArray, List.map_cons, List.map_nil]); first | done | rfl) ?_; (with_reducible refine (take_out _ p L.length cn An k HA.out.net.blk KO.out).mono ?_); rintro e w3 ⟨rfl, hw3⟩; rw [hw3]; clear hw3 w3; refine ⟨_, rfl, ?_⟩)
                          | ((with_reducible refine gate_callee (f := 15) rfl ?_); (try (refine gate_guard (by rfl) ?_; dsimp only)); refine goesL_ (some 240) rfl rfl Try.func15 (by kernel_rfl) rfl #[.pointer (some ⟨p, 0, none⟩)] rfl (by (try simp only [List.map_toArray, List.map_cons, List.map_nil]); first | done | rfl) ?_; (with_reducible refine (HA.out.grown.lenc M.length (by have := H.out.len; omega)).mono ?_); rintro e w6 ⟨rfl, hw6⟩; rw [hw6]; clear hw6 w6; refine ⟨_, rfl, ?_⟩))
                        go_quiet (fail)
                        have HA := Aside0.mk (HA.out.below (below_drewN (Below.refl _ _) nq))
                        go_wp2_with (first
                          | ((with_reducible refine gate_callee (f := 15) rfl ?_); (try (refine gate_guard (by rfl) ?_; dsimp only)); refine goesL_ (some 240) rfl rfl Try.func15 (by kernel_rfl) rfl #[.pointer (some ⟨p, 0, none⟩)] rfl (by (try simp only [List.map_toArray, List.map_cons, List.map_nil]); first | done | rfl) ?_; (with_reducible refine (HA.out.grown.lenc M.length (by have := H.out.len; omega)).mono ?_); rintro e w6 ⟨rfl, hw6⟩; rw [hw6]; clear hw6 w6; refine ⟨_, rfl, ?_⟩))
                        all_goals (go_roundg k2; (case measure => omega); (case rel => exact ⟨i + 1, _, _, _, by simp, by omega, by omega, HA⟩))
                  by_cases e3 : kd = 3
                  · subst e3
                    by_cases cin : 0 ≤ k ∧ k < M.length
                    · as_aux_lemma =>
                      obtain ⟨K, rfl⟩ := Int.eq_ofNat_of_zero_le cin.1
                      have hK : K < M.length := by omega
                      obtain ⟨gl, ol, rfl⟩ := hAl (by omega)
                      have d1 : decide ((0 : Int) ≤ (K : Int)) = true := decide_eq_true (by omega)
                      have d2 : decide ((K : Int) < (M.length : Int)) = true := decide_eq_true (by omega)
                      have d4 : IntKind.i64.wrap ((K : Int) + 1) = ((K + 1 : Nat) : Int) := by rw [IntKind.wrap_i64]; have := H.out.len; omega
                      have d5 : decide ((256 : Int) < ((M.length - 1 : Nat) : Int)) = false := decide_eq_false (by have := H.out.len; omega)
                      have OB := Aside0.mk (blk_new wr (.cells #[.int .i64 3, .int .i64 (K : Int), .slice Au us.length cu] 37))
                      have HA := Aside0.mk (H.out.below (below_alloc (Below.refl _ _) (.cells #[.int .i64 3, .int .i64 (K : Int), .slice Au us.length cu] 37)))
                      clear cin
                      by_cases c256 : M.length < 256
                      · have d6 : decide ((256 : Int) < ((M.length + 1 : Nat) : Int)) = false := decide_eq_false (by omega)
                        have d7 : decide ((256 : Int) < (M.length : Int) + 1) = false := decide_eq_false (by omega)
                        have CC := Aside0.mk c256
                        clear c256
                        go_wp2_with (first
                          | ((with_reducible refine gate_callee (f := 19) rfl ?_); refine goesL_ (some 221) rfl rfl Try.func19 (by kernel_rfl) rfl #[.pointer (some ⟨p, 0, none⟩), .int .i64 (K : Int)] rfl (by (try simp only [List.map_toArray, List.map_cons, List.map_nil]); first | done | rfl) ?_; (with_reducible refine (HA.out.double hK).mono ?_); rintro e w3 ⟨rfl, dd, ux, bs3, v3, L3, S5, X5, O3, R⟩; refine ⟨_, rfl, ?_⟩; have C3 : w3.cell? ⟨wr.heap.size, 1, none⟩ = some (.int .i64 (K : Int)) := O3.out.cell OB.out 1))
                        go_region_held_law (fun w' => w'.cell? ⟨gl, ol + K * 2, none⟩ = some (.int .i64 dd) ∧ w'.cell? ⟨gl, ol + K * 2 + 1, none⟩ = some ux ∧ w'.cell? ⟨wr.heap.size, 1, none⟩ = some (.int .i64 (K : Int))) (first | exact ⟨R.out.1, R.out.2, C3⟩ | exact three_kept (by first | exact BW | exact below_alloc (Below.refl _ _) _ | exact below_drew (Below.refl _ _) | exact below_drew (below_alloc (Below.refl _ _) _) | exact below_alloc BW _) R.out.1 R.out.2 C3) (first | (obtain ⟨v4, w4, g5, o5, c5, w5, hr4, hr5, hc5, G5, B4, B5⟩ := (S5.out.twice X5.out).1; refine event_step (w1 := w4) (v := v4) (by rfl) (app_exec rfl (by rfl) (by rfl) hr4) ?_; have BW : Below w3.heap.size w3 w4 := net_undrew B4.out) | (obtain ⟨v4, w4, g5, o5, c5, w5, hr4, hr5, hc5, G5, B4, B5⟩ := (S5.out.twice X5.out).2; refine event_step (w1 := w4) (v := v4) (by rfl) (app_exec rfl (by rfl) (by rfl) hr4) ?_; have BW : Below w3.heap.size w3 w4 := net_undrew B4.out) | (refine event_step (w1 := w5) (v := .slice (some ⟨g5, o5, none⟩) (M.length + 1) c5) (by rfl) (app_exec rfl (by rfl) (by rfl) hr5) ?_; have BW : Below w3.heap.size w3 w5 := net_undrew B5.out))
                        all_goals have hne1 : ¬ c5 = 1 := by omega
                        go_wp2_with (first
                          | ((with_reducible refine gate_callee (f := 15) rfl ?_); (try (refine gate_guard (by rfl) ?_; dsimp only)); refine goesL_ (some 240) rfl rfl Try.func15 (by kernel_rfl) rfl #[.pointer (some ⟨p, 0, none⟩)] rfl (by (try simp only [List.map_toArray, List.map_cons, List.map_nil]); first | done | rfl) ?_; (with_reducible refine (G5.out.lenc (M.length + 1) (by have := CC.out; simp; omega)).mono ?_); rintro e w6 ⟨rfl, hw6⟩; rw [hw6]; clear hw6 w6; refine ⟨_, rfl, ?_⟩))
                        all_goals (go_roundg k2; (case measure => omega); (case rel => exact ⟨i + 1, v3, _, _, by simp, by omega, by omega, ⟨G5.out.keep (by have := CC.out; simp; omega)⟩⟩))
                      · have d6 : decide ((256 : Int) < ((M.length + 1 : Nat) : Int)) = true := decide_eq_true (by omega)
                        have d7 : decide ((256 : Int) < (M.length : Int) + 1) = true := decide_eq_true (by omega)
                        have CC := Aside0.mk c256
                        clear c256
                        go_wp2_with (first
                          | ((with_reducible refine gate_callee (f := 19) rfl ?_); refine goesL_ (some 221) rfl rfl Try.func19 (by kernel_rfl) rfl #[.pointer (some ⟨p, 0, none⟩), .int .i64 (K : Int)] rfl (by (try simp only [List.map_toArray, List.map_cons, List.map_nil]); first | done | rfl) ?_; (with_reducible refine (HA.out.double hK).mono ?_); rintro e w3 ⟨rfl, dd, ux, bs3, v3, L3, S5, X5, O3, R⟩; refine ⟨_, rfl, ?_⟩; have C3 : w3.cell? ⟨wr.heap.size, 1, none⟩ = some (.int .i64 (K : Int)) := O3.out.cell OB.out 1))
                        go_region_held_law (fun w' => w'.cell? ⟨gl, ol + K * 2, none⟩ = some (.int .i64 dd) ∧ w'.cell? ⟨gl, ol + K * 2 + 1, none⟩ = some ux ∧ w'.cell? ⟨wr.heap.size, 1, none⟩ = some (.int .i64 (K : Int))) (first | exact ⟨R.out.1, R.out.2, C3⟩ | exact three_kept (by first | exact BW | exact below_alloc (Below.refl _ _) _ | exact below_drew (Below.refl _ _) | exact below_drew (below_alloc (Below.refl _ _) _) | exact below_alloc BW _) R.out.1 R.out.2 C3) (first | (obtain ⟨v4, w4, g5, o5, c5, w5, hr4, hr5, hc5, G5, B4, B5⟩ := (S5.out.twice X5.out).1; refine event_step (w1 := w4) (v := v4) (by rfl) (app_exec rfl (by rfl) (by rfl) hr4) ?_; have BW : Below w3.heap.size w3 w4 := net_undrew B4.out) | (obtain ⟨v4, w4, g5, o5, c5, w5, hr4, hr5, hc5, G5, B4, B5⟩ := (S5.out.twice X5.out).2; refine event_step (w1 := w4) (v := v4) (by rfl) (app_exec rfl (by rfl) (by rfl) hr4) ?_; have BW : Below w3.heap.size w3 w4 := net_undrew B4.out) | (refine event_step (w1 := w5) (v := .slice (some ⟨g5, o5, none⟩) (M.length + 1) c5) (by rfl) (app_exec rfl (by rfl) (by rfl) hr5) ?_; have BW : Below w3.heap.size w3 w5 := net_undrew B5.out))
                        all_goals have hne1 : ¬ c5 = 1 := by omega
                        go_wp2_with (first
                          | ((with_reducible refine gate_callee (f := 15) rfl ?_); (try (refine gate_guard (by rfl) ?_; dsimp only)); refine goesL_ (some 240) rfl rfl Try.func15 (by kernel_rfl) rfl #[.pointer (some ⟨p, 0, none⟩)] rfl (by (try simp only [List.map_toArray, List.map_cons, List.map_nil]); first | done | rfl) ?_; (with_reducible refine (G5.out.lenc (M.length) (by have := CC.out; have := H.out.len; simp; omega)).mono ?_); rintro e w6 ⟨rfl, hw6⟩; rw [hw6]; clear hw6 w6; refine ⟨_, rfl, ?_⟩))
                        all_goals (go_roundg k2; (case measure => omega); (case rel => exact ⟨i + 1, v3, _, _, by simp, by omega, by omega, ⟨by have := G5.out.cut1 (by have := CC.out; have := H.out.len; simp; omega) (by omega); rw [Nat.add_sub_cancel] at this; exact this⟩⟩))
                    · by_cases c0 : k < 0
                      · as_aux_lemma =>
                        have d1 : decide ((0 : Int) ≤ k) = false := decide_eq_false (by omega)
                        have d5 : decide ((256 : Int) < (M.length : Int)) = false := decide_eq_false (by have := H.out.len; omega)
                        have OB := Aside0.mk (blk_new wr (.cells #[.int .i64 3, .int .i64 k, .slice Au us.length cu] 37))
                        have HA := Aside0.mk (H.out.below (below_alloc (Below.refl _ _) (.cells #[.int .i64 3, .int .i64 k, .slice Au us.length cu] 37)))
                        obtain ⟨An, cn, rfl⟩ := own_shape HA.out.net.row
                        have EL := Aside0.mk HA.out.llen
                        have KO : Aside0 (k < 0 ∨ (L.length : Int) ≤ k) := ⟨by have := EL.out; omega⟩
                        have C3 : (wr.alloc (.cells #[.int .i64 3, .int .i64 k, .slice Au us.length cu] 37)).cell? ⟨wr.heap.size, 1, none⟩ = some (.int .i64 k) := blk_cell OB.out 1
                        clear cin c0
                        go_wp2_with (first
                          | ((with_reducible refine gate_callee (f := 19) rfl ?_); refine goesL_ (some 221) rfl rfl Try.func19 (by kernel_rfl) rfl #[.pointer (some ⟨p, 0, none⟩), .int .i64 k] rfl (by (try simp only [List.map_toArray, List.map_cons, List.map_nil]); first | done | rfl) ?_; (with_reducible refine (double_out _ p L.length cn An k HA.out.net.blk KO.out).mono ?_); rintro e w3 ⟨rfl, hw3⟩; rw [hw3]; clear hw3 w3; refine ⟨_, rfl, ?_⟩)
                          | ((with_reducible refine gate_callee (f := 15) rfl ?_); (try (refine gate_guard (by rfl) ?_; dsimp only)); refine goesL_ (some 240) rfl rfl Try.func15 (by kernel_rfl) rfl #[.pointer (some ⟨p, 0, none⟩)] rfl (by (try simp only [List.map_toArray, List.map_cons, List.map_nil]); first | done | rfl) ?_; (with_reducible refine (HA.out.grown.lenc M.length (by have := H.out.len; omega)).mono ?_); rintro e w6 ⟨rfl, hw6⟩; rw [hw6]; clear hw6 w6; refine ⟨_, rfl, ?_⟩))
                        all_goals (go_roundg k2; (case measure => omega); (case rel => exact ⟨i + 1, _, _, _, by simp, by omega, by omega, HA⟩))
                      · as_aux_lemma =>
                        have d1 : decide ((0 : Int) ≤ k) = true := decide_eq_true (by omega)
                        have d2 : decide (k < (M.length : Int)) = false := decide_eq_false (by omega)
                        have d5 : decide ((256 : Int) < (M.length : Int)) = false := decide_eq_false (by have := H.out.len; omega)
                        have OB := Aside0.mk (blk_new wr (.cells #[.int .i64 3, .int .i64 k, .slice Au us.length cu] 37))
                        have HA := Aside0.mk (H.out.below (below_alloc (Below.refl _ _) (.cells #[.int .i64 3, .int .i64 k, .slice Au us.length cu] 37)))
                        obtain ⟨An, cn, rfl⟩ := own_shape HA.out.net.row
                        have EL := Aside0.mk HA.out.llen
                        have KO : Aside0 (k < 0 ∨ (L.length : Int) ≤ k) := ⟨by have := EL.out; omega⟩
                        have C3 : (wr.alloc (.cells #[.int .i64 3, .int .i64 k, .slice Au us.length cu] 37)).cell? ⟨wr.heap.size, 1, none⟩ = some (.int .i64 k) := blk_cell OB.out 1
                        clear cin c0
                        go_wp2_with (first
                          | ((with_reducible refine gate_callee (f := 19) rfl ?_); refine goesL_ (some 221) rfl rfl Try.func19 (by kernel_rfl) rfl #[.pointer (some ⟨p, 0, none⟩), .int .i64 k] rfl (by (try simp only [List.map_toArray, List.map_cons, List.map_nil]); first | done | rfl) ?_; (with_reducible refine (double_out _ p L.length cn An k HA.out.net.blk KO.out).mono ?_); rintro e w3 ⟨rfl, hw3⟩; rw [hw3]; clear hw3 w3; refine ⟨_, rfl, ?_⟩)
                          | ((with_reducible refine gate_callee (f := 15) rfl ?_); (try (refine gate_guard (by rfl) ?_; dsimp only)); refine goesL_ (some 240) rfl rfl Try.func15 (by kernel_rfl) rfl #[.pointer (some ⟨p, 0, none⟩)] rfl (by (try simp only [List.map_toArray, List.map_cons, List.map_nil]); first | done | rfl) ?_; (with_reducible refine (HA.out.grown.lenc M.length (by have := H.out.len; omega)).mono ?_); rintro e w6 ⟨rfl, hw6⟩; rw [hw6]; clear hw6 w6; refine ⟨_, rfl, ?_⟩))
                        all_goals (go_roundg k2; (case measure => omega); (case rel => exact ⟨i + 1, _, _, _, by simp, by omega, by omega, HA⟩))
                  by_cases e0 : kd = 0
                  · subst e0
                    by_cases c0 : 0 ≤ k
                    · as_aux_lemma =>
                      have d1 : decide ((0 : Int) ≤ k) = true := decide_eq_true (by omega)
                      have OB := Aside0.mk (blk_new wr (.cells #[.int .i64 0, .int .i64 k, .slice Au us.length cu] 37))
                      have HA := Aside0.mk (H.out.below (below_alloc (Below.refl _ _) (.cells #[.int .i64 0, .int .i64 k, .slice Au us.length cu] 37)))
                      clear c0
                      obtain ⟨bs, hbs⟩ : ∃ bs, us.take 20 = bs := ⟨_, rfl⟩
                      have HL : bs.length ≤ 20 := by rw [← hbs, List.length_take]; omega
                      have YB : Aside0 (bytes bs) := ⟨hbs ▸ bytes_take UB.out 20⟩
                      have HBS := Aside0.mk hbs
                      clear hbs
                      go_wp2_with (first
                        | ((with_reducible refine gate_callee (f := 17) rfl ?_); refine goesL_ (some 117) rfl rfl Try.func17 (by kernel_rfl) rfl #[.slice Au us.length cu, .int .i64 20] rfl (by (try simp only [List.map_toArray, List.map_cons, List.map_nil]); first | done | rfl) ?_; (with_reducible refine (short20 (wr.alloc (.cells #[.int .i64 0, .int .i64 k, .slice Au us.length cu] 37)) us.length cu Au us (UR.out.below (below_step H.out.bel (below_alloc (Below.refl _ _) _))) hul huc).mono ?_); rintro e w2 ⟨v2, rfl, ⟨hV, _⟩, hw2⟩; rw [hw2]; clear hw2 w2; rw [HBS.out] at hV; refine ⟨_, rfl, ?_⟩; obtain ⟨vb, w1', hr1, hb1, hB1⟩ := clone_run (wr.alloc (.cells #[.int .i64 0, .int .i64 k, .slice Au us.length cu] 37)) v2 bs hV (by omega); obtain ⟨Ab, cb, rfl⟩ := own_shape hb1; have HV1 := Aside0.mk hb1; have BB1 := Aside0.mk hB1; clear hV hb1 hB1)
                        | ((with_reducible refine gate_dst (N := 118) rfl ?_); (try (refine gate_guard (by rfl) ?_; dsimp only)); refine app_event (s := .const (.slice none 0 0)) (x := .tmp 117) (t := 27) rfl rfl (by rfl) (by rfl) hr1 ?_; have OB1 := Aside0.mk (ops_below BB1.out _ _ OB.out); have C1 : w1'.cell? ⟨wr.heap.size, 1, none⟩ = some (.int .i64 k) := blk_cell OB1.out 1)
                        | ((with_reducible refine gate_callee (f := 14) rfl ?_); refine goesL_ (some 123) rfl rfl Try.func14 (by kernel_rfl) rfl #[.pointer (some ⟨p, 0, none⟩), .int .i64 k, .slice Ab bs.length cb] rfl (by (try simp only [List.map_toArray, List.map_cons, List.map_nil]); first | done | rfl) ?_; (with_reducible refine (HA.out.send0 HV1.out BB1.out YB.out HL k).mono ?_); rintro e w3 ⟨rfl, v3, L3, A4, c4, w4, g5, o5, c5, w5, hr4, hr5, hc5, F5, O3, O4, O5⟩; refine ⟨_, rfl, ?_⟩; have C3 : w3.cell? ⟨wr.heap.size, 1, none⟩ = some (.int .i64 k) := O3.out.cell OB1.out 1; have C4 : w4.cell? ⟨wr.heap.size, 1, none⟩ = some (.int .i64 k) := O4.out.cell OB1.out 1; have C5 : w5.cell? ⟨wr.heap.size, 1, none⟩ = some (.int .i64 k) := O5.out.cell OB1.out 1))
                      go_region_held_law (fun w' => w'.cell? ⟨wr.heap.size, 1, none⟩ = some (.int .i64 k)) (first | exact C3 | exact C4 | exact C5 | exact (blk_cell (blk_alloc (O4.out _ _ OB1.out) _) 1)) (first | (refine event_step (w1 := w4) (v := .slice A4 bs.length c4) (by rfl) (app_exec rfl (by rfl) (by rfl) hr4) ?_) | (refine event_step (w1 := w5) (v := .slice (some ⟨g5, o5, none⟩) (M.length + 1) c5) (by rfl) (app_exec rfl (by rfl) (by rfl) hr5) ?_))
                      go_wp2
                      go_loopg [13] 30 (fun kq v13 w' => ∃ j : Nat, v13 = .int .i64 (j : Nat) ∧ j ≤ bs.length ∧ bs.length - j < kq ∧ Aside0 (Flip w w' p v3 (.slice (some ⟨g5, o5, none⟩) (M.length + 1) c5) L3 (M ++ [(k, .slice A4 bs.length c4, bs)]) Ab bs.length))
                      case atStart => exact ⟨0, rfl, Nat.zero_le _, by omega, F5⟩
                      case round =>
                        clear F5
                        obtain ⟨j, rfl, hj, hjk, F⟩ := hrel
                        cases gk with
                        | zero => omega
                        | succ k3 =>
                          by_cases cj : j < bs.length
                          · have j1 : decide ((j : Int) < (bs.length : Int)) = true := decide_eq_true (by omega)
                            have j2 : IntKind.i64.wrap ((j : Int) + 1) = (j : Int) + 1 := by rw [IntKind.wrap_i64]; omega
                            obtain ⟨gb, y, rfl, cy, fy⟩ := F.out.at_ cj
                            have i1 : (0 : Int) ≤ (j : Int) := by omega
                            have i2 : (j : Int) < (bs.length : Int) := by omega
                            go_wp2
                            go_roundg k3
                            case measure => omega
                            case rel => exact ⟨j + 1, by simp, by omega, by omega, ⟨F.out.set cj _⟩⟩
                          · have j1 : decide ((j : Int) < (bs.length : Int)) = false := decide_eq_false (by omega)
                            have G5 := Aside0.mk F.out.st
                            have hne1 : ¬ c5 = 1 ∨ M.length = 0 := by omega
                            by_cases c256 : M.length < 256
                            · have d6 : decide ((256 : Int) < ((M.length + 1 : Nat) : Int)) = false := decide_eq_false (by omega)
                              have d7 : decide ((256 : Int) < (M.length : Int) + 1) = false := decide_eq_false (by omega)
                              have CC := Aside0.mk c256
                              clear c256 hne1
                              go_wp2_with (first
                                | ((with_reducible refine gate_callee (f := 15) rfl ?_); (try (refine gate_guard (by rfl) ?_; dsimp only)); refine goesL_ (some 240) rfl rfl Try.func15 (by kernel_rfl) rfl #[.pointer (some ⟨p, 0, none⟩)] rfl (by (try simp only [List.map_toArray, List.map_cons, List.map_nil]); first | done | rfl) ?_; (with_reducible refine (G5.out.lenc (M.length + 1) (by have := CC.out; simp; omega)).mono ?_); rintro e w6 ⟨rfl, hw6⟩; rw [hw6]; clear hw6 w6; refine ⟨_, rfl, ?_⟩))
                              all_goals (go_roundg k2; (case measure => omega); (case rel => exact ⟨i + 1, v3, _, _, by simp, by omega, by omega, ⟨G5.out.keep (by have := CC.out; simp; omega)⟩⟩))
                            · have d6 : decide ((256 : Int) < ((M.length + 1 : Nat) : Int)) = true := decide_eq_true (by omega)
                              have d7 : decide ((256 : Int) < (M.length : Int) + 1) = true := decide_eq_true (by omega)
                              have CC := Aside0.mk c256
                              have hne2 : ¬ c5 = 1 := by omega
                              clear c256 hne1
                              go_wp2_with (first
                                | ((with_reducible refine gate_callee (f := 15) rfl ?_); (try (refine gate_guard (by rfl) ?_; dsimp only)); refine goesL_ (some 240) rfl rfl Try.func15 (by kernel_rfl) rfl #[.pointer (some ⟨p, 0, none⟩)] rfl (by (try simp only [List.map_toArray, List.map_cons, List.map_nil]); first | done | rfl) ?_; (with_reducible refine (G5.out.lenc (M.length) (by have := CC.out; have := H.out.len; simp; omega)).mono ?_); rintro e w6 ⟨rfl, hw6⟩; rw [hw6]; clear hw6 w6; refine ⟨_, rfl, ?_⟩))
                              all_goals (go_roundg k2; (case measure => omega); (case rel => exact ⟨i + 1, v3, _, _, by simp, by omega, by omega, ⟨by have := G5.out.cut1 (by have := CC.out; have := H.out.len; simp; omega) (by omega); rw [Nat.add_sub_cancel] at this; exact this⟩⟩))
                    · as_aux_lemma =>
                      have d1 : decide ((0 : Int) ≤ k) = false := decide_eq_false (by omega)
                      have OB := Aside0.mk (blk_new wr (.cells #[.int .i64 0, .int .i64 k, .slice Au us.length cu] 37))
                      have HA := Aside0.mk (H.out.below (below_alloc (Below.refl _ _) (.cells #[.int .i64 0, .int .i64 k, .slice Au us.length cu] 37)))
                      clear c0
                      obtain ⟨bs, hbs⟩ : ∃ bs, us.take 20 = bs := ⟨_, rfl⟩
                      have HL : bs.length ≤ 20 := by rw [← hbs, List.length_take]; omega
                      have YB : Aside0 (bytes bs) := ⟨hbs ▸ bytes_take UB.out 20⟩
                      have HBS := Aside0.mk hbs
                      clear hbs
                      go_wp2_with (first
                        | ((with_reducible refine gate_callee (f := 17) rfl ?_); refine goesL_ (some 117) rfl rfl Try.func17 (by kernel_rfl) rfl #[.slice Au us.length cu, .int .i64 20] rfl (by (try simp only [List.map_toArray, List.map_cons, List.map_nil]); first | done | rfl) ?_; (with_reducible refine (short20 (wr.alloc (.cells #[.int .i64 0, .int .i64 k, .slice Au us.length cu] 37)) us.length cu Au us (UR.out.below (below_step H.out.bel (below_alloc (Below.refl _ _) _))) hul huc).mono ?_); rintro e w2 ⟨v2, rfl, ⟨hV, _⟩, hw2⟩; rw [hw2]; clear hw2 w2; rw [HBS.out] at hV; refine ⟨_, rfl, ?_⟩; obtain ⟨vb, w1', hr1, hb1, hB1⟩ := clone_run (wr.alloc (.cells #[.int .i64 0, .int .i64 k, .slice Au us.length cu] 37)) v2 bs hV (by omega); obtain ⟨Ab, cb, rfl⟩ := own_shape hb1; have HV1 := Aside0.mk hb1; have BB1 := Aside0.mk hB1; clear hV hb1 hB1)
                        | ((with_reducible refine gate_dst (N := 118) rfl ?_); (try (refine gate_guard (by rfl) ?_; dsimp only)); refine app_event (s := .const (.slice none 0 0)) (x := .tmp 117) (t := 27) rfl rfl (by rfl) (by rfl) hr1 ?_; have OB1 := Aside0.mk (ops_below BB1.out _ _ OB.out); have C1 : w1'.cell? ⟨wr.heap.size, 1, none⟩ = some (.int .i64 k) := blk_cell OB1.out 1)
                        | ((with_reducible refine gate_callee (f := 14) rfl ?_); refine goesL_ (some 123) rfl rfl Try.func14 (by kernel_rfl) rfl #[.pointer (some ⟨p, 0, none⟩), .int .i64 k, .slice Ab bs.length cb] rfl (by (try simp only [List.map_toArray, List.map_cons, List.map_nil]); first | done | rfl) ?_; (with_reducible refine (HA.out.send0 HV1.out BB1.out YB.out HL k).mono ?_); rintro e w3 ⟨rfl, v3, L3, A4, c4, w4, g5, o5, c5, w5, hr4, hr5, hc5, F5, O3, O4, O5⟩; refine ⟨_, rfl, ?_⟩; have C3 : w3.cell? ⟨wr.heap.size, 1, none⟩ = some (.int .i64 k) := O3.out.cell OB1.out 1; have C4 : w4.cell? ⟨wr.heap.size, 1, none⟩ = some (.int .i64 k) := O4.out.cell OB1.out 1; have C5 : w5.cell? ⟨wr.heap.size, 1, none⟩ = some (.int .i64 k) := O5.out.cell OB1.out 1))
                      go_region_held_law (fun w' => w'.cell? ⟨wr.heap.size, 1, none⟩ = some (.int .i64 k)) (first | exact C3 | exact C4 | exact C5 | exact (blk_cell (blk_alloc (O4.out _ _ OB1.out) _) 1)) (first | (refine event_step (w1 := w4) (v := .slice A4 bs.length c4) (by rfl) (app_exec rfl (by rfl) (by rfl) hr4) ?_) | (refine event_step (w1 := w5) (v := .slice (some ⟨g5, o5, none⟩) (M.length + 1) c5) (by rfl) (app_exec rfl (by rfl) (by rfl) hr5) ?_))
                      go_wp2
                      go_loopg [13] 30 (fun kq v13 w' => ∃ j : Nat, v13 = .int .i64 (j : Nat) ∧ j ≤ bs.length ∧ bs.length - j < kq ∧ Aside0 (Flip w w' p v3 (.slice (some ⟨g5, o5, none⟩) (M.length + 1) c5) L3 (M ++ [(k, .slice A4 bs.length c4, bs)]) Ab bs.length))
                      case atStart => exact ⟨0, rfl, Nat.zero_le _, by omega, F5⟩
                      case round =>
                        clear F5
                        obtain ⟨j, rfl, hj, hjk, F⟩ := hrel
                        cases gk with
                        | zero => omega
                        | succ k3 =>
                          by_cases cj : j < bs.length
                          · have j1 : decide ((j : Int) < (bs.length : Int)) = true := decide_eq_true (by omega)
                            have j2 : IntKind.i64.wrap ((j : Int) + 1) = (j : Int) + 1 := by rw [IntKind.wrap_i64]; omega
                            obtain ⟨gb, y, rfl, cy, fy⟩ := F.out.at_ cj
                            have i1 : (0 : Int) ≤ (j : Int) := by omega
                            have i2 : (j : Int) < (bs.length : Int) := by omega
                            go_wp2
                            go_roundg k3
                            case measure => omega
                            case rel => exact ⟨j + 1, by simp, by omega, by omega, ⟨F.out.set cj _⟩⟩
                          · have j1 : decide ((j : Int) < (bs.length : Int)) = false := decide_eq_false (by omega)
                            have G5 := Aside0.mk F.out.st
                            have hne1 : ¬ c5 = 1 ∨ M.length = 0 := by omega
                            by_cases c256 : M.length < 256
                            · have d6 : decide ((256 : Int) < ((M.length + 1 : Nat) : Int)) = false := decide_eq_false (by omega)
                              have d7 : decide ((256 : Int) < (M.length : Int) + 1) = false := decide_eq_false (by omega)
                              have CC := Aside0.mk c256
                              clear c256 hne1
                              go_wp2_with (first
                                | ((with_reducible refine gate_callee (f := 15) rfl ?_); (try (refine gate_guard (by rfl) ?_; dsimp only)); refine goesL_ (some 240) rfl rfl Try.func15 (by kernel_rfl) rfl #[.pointer (some ⟨p, 0, none⟩)] rfl (by (try simp only [List.map_toArray, List.map_cons, List.map_nil]); first | done | rfl) ?_; (with_reducible refine (G5.out.lenc (M.length + 1) (by have := CC.out; simp; omega)).mono ?_); rintro e w6 ⟨rfl, hw6⟩; rw [hw6]; clear hw6 w6; refine ⟨_, rfl, ?_⟩))
                              all_goals (go_roundg k2; (case measure => omega); (case rel => exact ⟨i + 1, v3, _, _, by simp, by omega, by omega, ⟨G5.out.keep (by have := CC.out; simp; omega)⟩⟩))
                            · have d6 : decide ((256 : Int) < ((M.length + 1 : Nat) : Int)) = true := decide_eq_true (by omega)
                              have d7 : decide ((256 : Int) < (M.length : Int) + 1) = true := decide_eq_true (by omega)
                              have CC := Aside0.mk c256
                              have hne2 : ¬ c5 = 1 := by omega
                              clear c256 hne1
                              go_wp2_with (first
                                | ((with_reducible refine gate_callee (f := 15) rfl ?_); (try (refine gate_guard (by rfl) ?_; dsimp only)); refine goesL_ (some 240) rfl rfl Try.func15 (by kernel_rfl) rfl #[.pointer (some ⟨p, 0, none⟩)] rfl (by (try simp only [List.map_toArray, List.map_cons, List.map_nil]); first | done | rfl) ?_; (with_reducible refine (G5.out.lenc (M.length) (by have := CC.out; have := H.out.len; simp; omega)).mono ?_); rintro e w6 ⟨rfl, hw6⟩; rw [hw6]; clear hw6 w6; refine ⟨_, rfl, ?_⟩))
                              all_goals (go_roundg k2; (case measure => omega); (case rel => exact ⟨i + 1, v3, _, _, by simp, by omega, by omega, ⟨by have := G5.out.cut1 (by have := CC.out; have := H.out.len; simp; omega) (by omega); rw [Nat.add_sub_cancel] at this; exact this⟩⟩))
                  by_cases c0 : 0 ≤ k
                  · as_aux_lemma =>
                    have d1 : decide ((0 : Int) ≤ k) = true := decide_eq_true (by omega)
                    have OB := Aside0.mk (blk_new wr (.cells #[.int .i64 kd, .int .i64 k, .slice Au us.length cu] 37))
                    have HA := Aside0.mk (H.out.below (below_alloc (Below.refl _ _) (.cells #[.int .i64 kd, .int .i64 k, .slice Au us.length cu] 37)))
                    have f0 : decide (kd = 0) = false := decide_eq_false e0
                    have f1 : decide (kd = 1) = false := decide_eq_false e1
                    have f2 : decide (kd = 2) = false := decide_eq_false e2
                    have f3 : decide (kd = 3) = false := decide_eq_false e3
                    have b0 : (kd == 0) = false := beq_eq_false_iff_ne.2 e0
                    have b1 : (kd == 1) = false := beq_eq_false_iff_ne.2 e1
                    have b2 : (kd == 2) = false := beq_eq_false_iff_ne.2 e2
                    have b3 : (kd == 3) = false := beq_eq_false_iff_ne.2 e3
                    clear c0
                    go_wp2
                    go_loopg [19, 20] 300 (fun kq v19 v20 w' => ∃ (j nmj : Nat) (Am : Option Addr) (cm : Nat), v20 = .int .i64 (j : Nat) ∧ j ≤ M.length ∧ M.length - j < kq ∧ v19 = .slice Am nmj cm ∧ nmj = (keepG k (M.take j)).length ∧ Aside0 (Filt w (wr.alloc (.cells #[.int .i64 kd, .int .i64 k, .slice Au us.length cu] 37)) w' v19 M k j))
                    case atStart => exact ⟨0, 0, none, 0, rfl, Nat.zero_le _, by have := H.out.len; omega, rfl, rfl, ⟨Filt.start _ _ _ _⟩⟩
                    case round =>
                      obtain ⟨j, nmj, Am, cm, rfl, hj, hjk, rfl, hnm, F⟩ := hrel
                      have HN := Aside0.mk hnm
                      have C0 := (blk_cell (blk_below OB.out F.out.bel) 1).trans rfl
                      clear hnm
                      cases gk with
                      | zero => omega
                      | succ k3 =>
                        by_cases cj : j < M.length
                        · have j1 : decide ((j : Int) < (M.length : Int)) = true := decide_eq_true (by omega)
                          obtain ⟨x, hx⟩ : ∃ x, M[j]? = some x := ⟨_, List.getElem?_eq_getElem cj⟩
                          obtain ⟨gl, ol, rfl⟩ := hAl (by omega)
                          obtain ⟨x1, x2⟩ := (HA.out.below F.out.bel).cells hx
                          have j2 : IntKind.i64.wrap ((j : Int) + 1) = (j : Int) + 1 := by rw [IntKind.wrap_i64]; have := H.out.len; omega
                          have i1 : (0 : Int) ≤ (j : Int) := by omega
                          have i2 : (j : Int) < (M.length : Int) := by omega
                          have HX := Aside0.mk hx
                          clear hx
                          by_cases ex : x.1 = k
                          · have y1 : decide (x.1 = k) = true := decide_eq_true ex
                            have EX := Aside0.mk ex
                            rw [ex] at x1
                            clear ex y1
                            go_wp2
                            go_quiet (fail)
                            go_wp2
                            go_roundg k3
                            case measure => omega
                            case rel => exact ⟨j + 1, nmj, Am, cm, by simp, by omega, by omega, rfl, by rw [keep_succ HX.out, if_pos EX.out, List.append_nil]; exact HN.out, ⟨(F.out.drewN nq).skip HX.out EX.out⟩⟩
                          · have y1 : decide (x.1 = k) = false := decide_eq_false ex
                            have EX := Aside0.mk ex
                            have y2 : (x.1 == k) = false := beq_eq_false_iff_ne.2 ex
                            go_wp2
                            go_quiet (fail)
                            obtain ⟨A5, c5, w5, hr5, F5⟩ := (F.out.drewN nq).add HA.out HX.out EX.out
                            obtain ⟨n5, hn5⟩ : ∃ n5, (keepG k (M.take (j + 1))).length = n5 := ⟨_, rfl⟩
                            rw [hn5] at hr5 F5
                            have HN5 := Aside0.mk hn5
                            clear hn5
                            go_wp2_with (first
                              | ((with_reducible refine gate_dst (N := 101) rfl ?_); (try (refine gate_guard (by rfl) ?_; dsimp only)); refine app_event (s := .tmp 95) (x := .tmp 100) (t := 33) rfl rfl (by rfl) (by rfl) hr5 ?_))
                            go_roundg k3
                            case measure => omega
                            case rel => exact ⟨j + 1, n5, A5, c5, by simp, by omega, by omega, rfl, HN5.out.symm, F5⟩
                        · have j1 : decide ((j : Int) < (M.length : Int)) = false := decide_eq_false (by omega)
                          have HM : Aside0 ((keepG k M).length = nmj) := ⟨by rw [HN.out, List.take_of_length_le (by omega)]⟩
                          have nl : nmj ≤ M.length := by rw [← HM.out]; exact keepG_le _ _
                          have d6 : decide ((256 : Int) < (nmj : Int)) = false := decide_eq_false (by have := H.out.len; omega)
                          have d7 : IntKind.i64.wrap ((M.length : Int) - (nmj : Int)) = (M.length : Int) - (nmj : Int) := by rw [IntKind.wrap_i64]; have := H.out.len; omega
                          go_wp2_with (first
                            | ((with_reducible refine gate_callee (f := 20) rfl ?_); refine goesL_ (some 105) rfl rfl Try.func20 (by kernel_rfl) rfl #[.pointer (some ⟨p, 0, none⟩), .int .i64 k] rfl (by (try simp only [List.map_toArray, List.map_cons, List.map_nil]); first | done | rfl) ?_; (with_reducible refine (F.out.clear HA.out (by omega) nmj HM.out).mono ?_); rintro e w3 ⟨rfl, v3, G5⟩; refine ⟨_, rfl, ?_⟩)
                            | ((with_reducible refine gate_callee (f := 15) rfl ?_); (try (refine gate_guard (by rfl) ?_; dsimp only)); refine goesL_ (some 240) rfl rfl Try.func15 (by kernel_rfl) rfl #[.pointer (some ⟨p, 0, none⟩)] rfl (by (try simp only [List.map_toArray, List.map_cons, List.map_nil]); first | done | rfl) ?_; (with_reducible refine (G5.out.lenc (nmj) (by rw [HM.out]; have := H.out.len; omega)).mono ?_); rintro e w6 ⟨rfl, hw6⟩; rw [hw6]; clear hw6 w6; refine ⟨_, rfl, ?_⟩))
                          go_roundg k2
                          case measure => omega
                          case rel => exact ⟨i + 1, v3, _, _, by simp, by omega, by omega, ⟨G5.out.keep (by rw [HM.out]; have := H.out.len; omega)⟩⟩
                  · as_aux_lemma =>
                    have d1 : decide ((0 : Int) ≤ k) = false := decide_eq_false (by omega)
                    have OB := Aside0.mk (blk_new wr (.cells #[.int .i64 kd, .int .i64 k, .slice Au us.length cu] 37))
                    have HA := Aside0.mk (H.out.below (below_alloc (Below.refl _ _) (.cells #[.int .i64 kd, .int .i64 k, .slice Au us.length cu] 37)))
                    have f0 : decide (kd = 0) = false := decide_eq_false e0
                    have f1 : decide (kd = 1) = false := decide_eq_false e1
                    have f2 : decide (kd = 2) = false := decide_eq_false e2
                    have f3 : decide (kd = 3) = false := decide_eq_false e3
                    have b0 : (kd == 0) = false := beq_eq_false_iff_ne.2 e0
                    have b1 : (kd == 1) = false := beq_eq_false_iff_ne.2 e1
                    have b2 : (kd == 2) = false := beq_eq_false_iff_ne.2 e2
                    have b3 : (kd == 3) = false := beq_eq_false_iff_ne.2 e3
                    clear c0
                    go_wp2
                    go_loopg [19, 20] 300 (fun kq v19 v20 w' => ∃ (j nmj : Nat) (Am : Option Addr) (cm : Nat), v20 = .int .i64 (j : Nat) ∧ j ≤ M.length ∧ M.length - j < kq ∧ v19 = .slice Am nmj cm ∧ nmj = (keepG k (M.take j)).length ∧ Aside0 (Filt w (wr.alloc (.cells #[.int .i64 kd, .int .i64 k, .slice Au us.length cu] 37)) w' v19 M k j))
                    case atStart => exact ⟨0, 0, none, 0, rfl, Nat.zero_le _, by have := H.out.len; omega, rfl, rfl, ⟨Filt.start _ _ _ _⟩⟩
                    case round =>
                      obtain ⟨j, nmj, Am, cm, rfl, hj, hjk, rfl, hnm, F⟩ := hrel
                      have HN := Aside0.mk hnm
                      have C0 := (blk_cell (blk_below OB.out F.out.bel) 1).trans rfl
                      clear hnm
                      cases gk with
                      | zero => omega
                      | succ k3 =>
                        by_cases cj : j < M.length
                        · have j1 : decide ((j : Int) < (M.length : Int)) = true := decide_eq_true (by omega)
                          obtain ⟨x, hx⟩ : ∃ x, M[j]? = some x := ⟨_, List.getElem?_eq_getElem cj⟩
                          obtain ⟨gl, ol, rfl⟩ := hAl (by omega)
                          obtain ⟨x1, x2⟩ := (HA.out.below F.out.bel).cells hx
                          have j2 : IntKind.i64.wrap ((j : Int) + 1) = (j : Int) + 1 := by rw [IntKind.wrap_i64]; have := H.out.len; omega
                          have i1 : (0 : Int) ≤ (j : Int) := by omega
                          have i2 : (j : Int) < (M.length : Int) := by omega
                          have HX := Aside0.mk hx
                          clear hx
                          by_cases ex : x.1 = k
                          · have y1 : decide (x.1 = k) = true := decide_eq_true ex
                            have EX := Aside0.mk ex
                            rw [ex] at x1
                            clear ex y1
                            go_wp2
                            go_quiet (fail)
                            go_wp2
                            go_roundg k3
                            case measure => omega
                            case rel => exact ⟨j + 1, nmj, Am, cm, by simp, by omega, by omega, rfl, by rw [keep_succ HX.out, if_pos EX.out, List.append_nil]; exact HN.out, ⟨(F.out.drewN nq).skip HX.out EX.out⟩⟩
                          · have y1 : decide (x.1 = k) = false := decide_eq_false ex
                            have EX := Aside0.mk ex
                            have y2 : (x.1 == k) = false := beq_eq_false_iff_ne.2 ex
                            go_wp2
                            go_quiet (fail)
                            obtain ⟨A5, c5, w5, hr5, F5⟩ := (F.out.drewN nq).add HA.out HX.out EX.out
                            obtain ⟨n5, hn5⟩ : ∃ n5, (keepG k (M.take (j + 1))).length = n5 := ⟨_, rfl⟩
                            rw [hn5] at hr5 F5
                            have HN5 := Aside0.mk hn5
                            clear hn5
                            go_wp2_with (first
                              | ((with_reducible refine gate_dst (N := 101) rfl ?_); (try (refine gate_guard (by rfl) ?_; dsimp only)); refine app_event (s := .tmp 95) (x := .tmp 100) (t := 33) rfl rfl (by rfl) (by rfl) hr5 ?_))
                            go_roundg k3
                            case measure => omega
                            case rel => exact ⟨j + 1, n5, A5, c5, by simp, by omega, by omega, rfl, HN5.out.symm, F5⟩
                        · have j1 : decide ((j : Int) < (M.length : Int)) = false := decide_eq_false (by omega)
                          have HM : Aside0 ((keepG k M).length = nmj) := ⟨by rw [HN.out, List.take_of_length_le (by omega)]⟩
                          have nl : nmj ≤ M.length := by rw [← HM.out]; exact keepG_le _ _
                          have d6 : decide ((256 : Int) < (nmj : Int)) = false := decide_eq_false (by have := H.out.len; omega)
                          have d7 : IntKind.i64.wrap ((M.length : Int) - (nmj : Int)) = (M.length : Int) - (nmj : Int) := by rw [IntKind.wrap_i64]; have := H.out.len; omega
                          go_wp2_with (first
                            | ((with_reducible refine gate_callee (f := 20) rfl ?_); refine goesL_ (some 105) rfl rfl Try.func20 (by kernel_rfl) rfl #[.pointer (some ⟨p, 0, none⟩), .int .i64 k] rfl (by (try simp only [List.map_toArray, List.map_cons, List.map_nil]); first | done | rfl) ?_; (with_reducible refine (F.out.clear HA.out (by omega) nmj HM.out).mono ?_); rintro e w3 ⟨rfl, v3, G5⟩; refine ⟨_, rfl, ?_⟩)
                            | ((with_reducible refine gate_callee (f := 15) rfl ?_); (try (refine gate_guard (by rfl) ?_; dsimp only)); refine goesL_ (some 240) rfl rfl Try.func15 (by kernel_rfl) rfl #[.pointer (some ⟨p, 0, none⟩)] rfl (by (try simp only [List.map_toArray, List.map_cons, List.map_nil]); first | done | rfl) ?_; (with_reducible refine (G5.out.lenc (nmj) (by rw [HM.out]; have := H.out.len; omega)).mono ?_); rintro e w6 ⟨rfl, hw6⟩; rw [hw6]; clear hw6 w6; refine ⟨_, rfl, ?_⟩))
                          go_roundg k2
                          case measure => omega
                          case rel => exact ⟨i + 1, v3, _, _, by simp, by omega, by omega, ⟨G5.out.keep (by rw [HM.out]; have := H.out.len; omega)⟩⟩
                · by_cases ci : i < no
                  · have q3 : decide ((i : Int) < (no : Int)) = true := decide_eq_true (by omega)
                    have q5 : decide ((i : Int) < 50) = false := decide_eq_false (by omega)
                    go_wp2
                    go_ret
                    exact ⟨rfl, H.out.bel⟩
                  · have q3 : decide ((i : Int) < (no : Int)) = false := decide_eq_false (by omega)
                    go_wp2
                    go_ret
                    exact ⟨rfl, H.out.bel⟩
  clear hK1
  go_wp2
  exact key _ _ rfl rfl
end Go.Proofs.Ytlfckoeolcnniaa.Net
