/- Walks of net: Clear. -/
import Derived.Test.YtlfckoeolcnniaaNetG
namespace Go.Proofs.Ytlfckoeolcnniaa.Net
open Go.RowKit Go.Proofs.YtlfckoeolcnniaaW.PrintWords Go.Proofs.YtlfckoeolcnniaaW.PrintLast Go.Proofs.YtlfckoeolcnniaaW.PrintMore
set_option linter.unusedVariables false
set_option linter.unusedSimpArgs false
set_option maxHeartbeats 4000000 in
set_option maxRecDepth 100000 in
theorem is_calls (w : World) (q n c : Nat) (A : Option Addr) (t k : Int) (hq : w.heap[q]? = some (.cells #[.int .i64 k] 3 (0, 0))) :
    Calls Try.prog 38 #[.agg #[.int .i64 t, .slice A n c], .pointer (some ⟨q, 0, none⟩)] w fun e w' => e = .returned (.bool (decide (t = k))) ∧ Below w.heap.size w w' := by
  have c0 := (blk_cell hq 0).trans rfl
  have c1 : ∀ o, (w.alloc o).cell? ⟨q, 0, none⟩ = some (.int .i64 k) := fun o => (blk_cell (blk_alloc hq o) 0).trans rfl
  clear hq
  go_enter Try.func38, Try.ntmps38
  go_wp2
  go_ret
  exact ⟨by by_cases h : t = k <;> simp [h], below_alloc (Below.refl _ _) _⟩
structure IdxOk (k : Int) (L : List Gr) (r : Int) : Prop where
  out : (r = -1 ∧ ∀ (j : Nat) (x : Gr), L[j]? = some x → x.1 ≠ k) ∨ ∃ (j : Nat) (x : Gr), r = (j : Int) ∧ L[j]? = some x ∧ x.1 = k ∧ ∀ (i : Nat) (y : Gr), i < j → L[i]? = some y → y.1 ≠ k
set_option maxHeartbeats 4000000 in
set_option maxRecDepth 100000 in
theorem index_calls (w : World) (q g m cap : Nat) (cur : Array Value) (L : List Gr) (k : Int) (hq : w.heap[q]? = some (.cells #[.int .i64 k] 3 (0, 0))) (hg : w.heap[g]? = some (.cells cur 61 (0, 0))) (hs : cur.size = cap * 2) (hn : L.length ≤ cap) (ht : cur.toList.take (L.length * 2) = flat L) (hl : L.length ≤ 1000) (hsl : ∀ x ∈ L, ∃ A n c, x.2.1 = .slice A n c) :
    Calls Try.prog 49 #[.slice (some ⟨g, 0, none⟩) L.length cap, .func (.func 38) #[] #[.pointer (some ⟨q, 0, none⟩)]] w fun e w' => ∃ r : Int, e = .returned (.int .i64 r) ∧ IdxOk k L r ∧ Below w.heap.size w w' := by
  have HQ := Aside0.mk hq
  have HG := Aside0.mk hg
  have HB := Aside0.mk (Below.refl w.heap.size w)
  have fl := flat_len L
  have cell : ∀ (W : World), Below w.heap.size w W → ∀ (i : Nat) (x : Gr), L[i]? = some x → W.cell? ⟨g, i * 2, none⟩ = some (.int .i64 x.1) ∧ W.cell? ⟨g, i * 2 + 1, none⟩ = some x.2.1 := by
    intro W hW i x hx
    have hi := (List.getElem?_eq_some_iff.1 hx).1
    obtain ⟨f0, f1⟩ := flat_at0 L i x hx
    have c0 : cur[i * 2]? = some (.int .i64 x.1) := by
      rw [← ht, List.getElem?_take, if_pos (by omega)] at f0
      simpa using f0
    have c1 : cur[i * 2 + 1]? = some x.2.1 := by
      rw [← ht, List.getElem?_take, if_pos (by omega)] at f1
      simpa using f1
    exact ⟨(blk_cell (blk_below hg hW) (i * 2)).trans c0, (blk_cell (blk_below hg hW) (i * 2 + 1)).trans c1⟩
  have CE := Aside0.mk cell
  clear hq hg ht cell
  go_enter Try.func49, Try.ntmps49
  go_wp2
  go_loopg [8] (L.length + 2) (fun kq v8 w' => ∃ i : Nat, v8 = .int .i64 (i : Nat) ∧ i ≤ L.length ∧ L.length - i < kq ∧ Aside0 (∀ (j : Nat) (x : Gr), j < i → L[j]? = some x → x.1 ≠ k) ∧ Aside0 (Below w.heap.size w w'))
  case atStart => exact ⟨0, rfl, Nat.zero_le _, by omega, ⟨fun j x hj => by omega⟩, HB⟩
  case round =>
    clear HB
    obtain ⟨i, rfl, hi, hkq, HN, B⟩ := hrel
    cases gk with
    | zero => omega
    | succ k2 =>
      by_cases c : i < L.length
      · obtain ⟨x, hx⟩ : ∃ x, L[i]? = some x := ⟨_, List.getElem?_eq_getElem c⟩
        obtain ⟨e0, e1⟩ := CE.out wr B.out i x hx
        obtain ⟨t, u, bs⟩ := x
        obtain ⟨Au, nu, cu, rfl⟩ := hsl _ (List.mem_of_getElem? hx)
        have q2 : decide ((i : Int) < (L.length : Int)) = true := decide_eq_true (by omega)
        have q3 : IntKind.i64.wrap ((i : Int) + 1) = (i : Int) + 1 := by rw [IntKind.wrap_i64]; omega
        have cq : ∀ o, (wr.alloc o).cell? ⟨q, 0, none⟩ = some (.int .i64 k) := fun o => (blk_cell (blk_alloc (blk_below HQ.out B.out) o) 0).trans rfl
        by_cases hk : t = k
        · subst hk
          go_wp2
          go_ret
          exact ⟨_, rfl, ⟨.inr ⟨i, _, rfl, hx, rfl, HN.out⟩⟩, below_alloc B.out _⟩
        · have hk1 : (t == k) = false := by simpa using hk
          go_wp2
          go_roundg k2
          case measure => omega
          case rel =>
            refine ⟨i + 1, rfl, by omega, by omega, ⟨fun j x hj hjx => ?_⟩, ⟨below_alloc B.out _⟩⟩
            by_cases hji : j = i
            · subst hji
              rw [hx] at hjx
              obtain rfl := Option.some.inj hjx
              exact hk
            · exact HN.out j x (by omega) hjx
      · obtain rfl : i = L.length := by omega
        have q2 : decide ((L.length : Int) < (L.length : Int)) = false := decide_eq_false (by omega)
        go_wp2
        go_ret
        exact ⟨_, rfl, ⟨.inl ⟨rfl, fun j x hx => HN.out j x (List.getElem?_eq_some_iff.1 hx).1 hx⟩⟩, B.out⟩
end Go.Proofs.Ytlfckoeolcnniaa.Net
