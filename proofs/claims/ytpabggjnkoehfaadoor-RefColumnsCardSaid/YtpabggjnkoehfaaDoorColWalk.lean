/- The walk through the law RefColumns: it answers true where the column's name behind n is the next one to n's in the reckoning letter by letter. Conditions: those that its hypotheses tell. -/
import Derived.Test.YtpabggjnkoehfaaDoorERef3
import Derived.Test.YtpabggjnkoehfaaDoorBytes
namespace Go.Proofs.YtpabggjnkoehfaaDoor.ERef
open Go.RowKit Go.Proofs.YtpabggjnkoehfaaDoor.Ext Go.Proofs.YtpabggjnkoehfaaDoorW.PrintWords Go.Proofs.YtpabggjnkoehfaaDoorW.PrintLast Go.Proofs.YtpabggjnkoehfaaDoorW.PrintMore
attribute [local go_sem] max2_int min2_int max_two min_two max_three min_three max_four min_four
set_option linter.unusedVariables false
set_option linter.unusedSimpArgs false
/-- the next name: the first m letters are looked at from behind -/
def incFrom : List UInt8 → Nat → List UInt8
  | l, 0 => 65 :: l
  | l, m + 1 => if l.getD m 0 = 90 then incFrom (l.set m 65) m else l.set m (l.getD m 0 + 1)
theorem u8_add1 (b : UInt8) : ((b.toNat : Int) + 1) % 256 = ((b + 1).toNat : Int) := by
  have := b.toNat_lt
  rw [UInt8.toNat_add, show (1 : UInt8).toNat = 1 from rfl]
  omega
theorem toList_data (x : ByteArray) : x.toList = x.data.toList := by rw [ByteArray.toList_eq]
theorem data_app (l : List UInt8) : ((⟨#[65]⟩ : ByteArray) ++ ⟨l.toArray⟩).data.toList = 65 :: l := by simp
set_option maxHeartbeats 4000000 in
set_option maxRecDepth 100000 in
theorem RefColumns.mid (n : Int) (s t : ByteArray) (w : World) (hL : Aside0 (Lq w)) (hb : Aside0 (counterpanelaw5_begun.f 300 = some true)) (h0 : 0 ≤ n) (h1 : n ≤ 1099511627776)
    (hs : Aside0 (a1_ColName.f 300 n = some s)) (ht : Aside0 (a1_ColName.f 300 (n + 1) = some t)) (hinc : Aside0 (t.data.toList = incFrom s.data.toList s.size)) (hsz : s.size ≤ 1000) :
    Calls Tryd.prog 5 #[.int .i64 n] w fun e w' => e = .returned (.bool true) ∧ Below w.heap.size w w' := by
  have HB := Aside0.mk (Below.refl w.heap.size w)
  have c0 : decide (n < 0) = false := decide_eq_false (by omega)
  have c1 : decide (1099511627776 < n) = false := decide_eq_false (by omega)
  go_enter Tryd.func5, Tryd.ntmps5
  go_upto_block 0 with (first
    | ((with_reducible refine gate_callee (f := 7) rfl ?_); refine goesL_ (some 7) rfl rfl Tryd.func7 (by kernel_rfl) rfl #[] rfl (by (try simp only [List.map_toArray, List.map_cons, List.map_nil]); first | done | rfl) ?_; (with_reducible refine (counterpanelaw5_begun.calls (hL := ⟨hL.out.below HB.out⟩) 300 true _ hb.out).mono ?_); rintro e w9 ⟨rfl, hbb⟩; refine ⟨_, rfl, ?_⟩; have n1_ := Aside0.mk (below_step HB.out hbb); clear HB; have HB := n1_; clear n1_; clear hbb)
    | ((with_reducible refine gate_callee (f := 20) rfl ?_); refine goesL_ (some 22) rfl rfl Tryd.func20 (by kernel_rfl) rfl #[.int .i64 n] rfl (by (try simp only [List.map_toArray, List.map_cons, List.map_nil]); first | done | rfl) ?_; (with_reducible refine (a1_ColName.calls 300 n s _ hs.out).mono ?_); rintro e w10 ⟨rfl, hbb⟩; refine ⟨_, rfl, ?_⟩; have n1_ := Aside0.mk (below_step HB.out hbb); clear HB; have HB := n1_; clear n1_; clear hbb)
    | ((with_reducible refine gate_dst (N := 23) rfl ?_); refine conv_event rfl rfl s rfl ?_; intro g cap w11 hg hrow hbb; have GE := Aside0.mk (Nat.le_trans (below_size HB.out) hg); have BR := Aside0.mk hrow; have n1_ := Aside0.mk (below_step HB.out hbb); clear HB; have HB := n1_; clear n1_; clear hbb hrow hg)
    | ((with_reducible refine gate_callee (f := 20) rfl ?_); refine goesL_ (some 26) rfl rfl Tryd.func20 (by kernel_rfl) rfl #[.int .i64 (n + 1)] rfl (by (try simp only [List.map_toArray, List.map_cons, List.map_nil]); first | done | rfl) ?_; (with_reducible refine (a1_ColName.calls 300 (n + 1) t _ ht.out).mono ?_); rintro e w12 ⟨rfl, hbb⟩; refine ⟨_, rfl, ?_⟩; have n2_ := Aside0.mk (BR.out.below hbb); have n1_ := Aside0.mk (below_step HB.out hbb); clear HB BR; have HB := n1_; have BR := n2_; clear n1_ n2_; clear hbb))
  (try simp only [Act.put, List.setIfInBounds_toArray, List.set_cons_zero, List.set_cons_succ])
  have hlen : s.data.toList.length = s.size := by simp
  go_wp2
  go_loopg [6] 2000 (fun kq v6 w' => ∃ (l : List UInt8) (m : Nat), v6 = .int .i64 ((m : Int) - 1) ∧ l.length = s.size ∧ m ≤ s.size ∧ m < kq ∧ t.data.toList = incFrom l m ∧ Aside0 (BRow w' g l) ∧ Aside0 (Below w.heap.size w w'))
  case atStart => exact ⟨s.data.toList, s.size, by first | rfl | (simp; done) | (simp [*]; done), hlen, Nat.le_refl _, by omega, hinc.out, BR, HB⟩
  case round =>
    clear BR HB
    obtain ⟨l, m, rfl, hl, hm, hk, hI, BR, HB⟩ := hrel
    cases gk with
    | zero => omega
    | succ k2 =>
      cases m with
      | zero =>
        have hI0 : t.data.toList = 65 :: l := hI
        have e0 : (((0 : Nat) : Int) - 1) = -1 := rfl
        rw [e0]
        go_wp2_with (first
          | ((with_reducible refine gate_dst (N := 50) rfl ?_); (try (refine gate_guard (by rfl) ?_; dsimp only)); refine back_event rfl rfl g cap s.size l rfl hl.symm BR.out ?_))
        have he : (t.toList == ((⟨#[65]⟩ : ByteArray) ++ ⟨l.toArray⟩).toList) = true := by
          rw [beq_iff_eq, toList_data, toList_data, hI0, data_app]
        go_ret
        exact ⟨by simp; exact beq_iff_eq.mp he, HB.out⟩
      | succ m =>
        have e0 : (((m + 1 : Nat) : Int) - 1) = (m : Int) := by omega
        rw [e0]
        have hml : m < l.length := by omega
        have hc := BR.out.cell m hml
        have hf := BR.out.frozen m hml
        have p0 : (0 ≤ (m : Int)) = True := eq_true (by omega)
        have p1 : ((m : Int) < (s.size : Int)) = True := eq_true (by omega)
        have p2 : (m < s.size) = True := eq_true (by omega)
        have p3 : ((m : Int) < 0) = False := eq_false (by omega)
        rw [incFrom] at hI
        obtain ⟨b, hbb⟩ : ∃ b, l.getD m 0 = b := ⟨_, rfl⟩
        rw [hbb] at hI hc
        clear hbb
        by_cases c : b = 90
        · rw [if_pos c] at hI
          subst c
          have hc' : wr.cell? ⟨g, m, none⟩ = some (.int .u8 90) := hc
          clear hc
          go_wp2
          go_roundg k2
          case measure => omega
          case rel => exact ⟨l.set m 65, m, by first | rfl | (simp; done) | (simp [*]; done), by simpa using hl, by omega, by omega, hI, ⟨BR.out.put m 65⟩, ⟨below_set HB.out GE.out⟩⟩
        · rw [if_neg c] at hI
          have c0 : ((b.toNat : Int) == 90) = false := beq_eq_false_iff_ne.mpr (fun h => c (UInt8.toNat_inj.mp (by rw [show (90 : UInt8).toNat = 90 from rfl]; omega)))
          have c1 : ((b.toNat : Int) = 90) = False := eq_false (fun h => c (UInt8.toNat_inj.mp (by rw [show (90 : UInt8).toNat = 90 from rfl]; omega)))
          have ht0 : t = ⟨(l.set m (b + 1)).toArray⟩ := ByteArray.ext (Array.toList_inj.mp (by rw [hI]))
          go_wp2_with (first
            | ((with_reducible refine gate_dst (N := 64) rfl ?_); (try (refine gate_guard (by rfl) ?_; dsimp only)); refine back_event rfl rfl g cap s.size (l.set m (b + 1)) rfl (by rw [List.length_set]; exact hl.symm) (by first | exact BR.out.put m _ | (rw [u8_add1]; exact BR.out.put m _)) ?_))
          have he : (t.toList == (⟨(l.set m (b + 1)).toArray⟩ : ByteArray).toList) = true := by rw [ht0]; exact beq_self_eq_true _
          go_ret
          exact ⟨by first | rfl | (simp; done) | (rw [he]), below_set HB.out GE.out⟩
set_option maxHeartbeats 4000000 in
set_option maxRecDepth 100000 in
theorem RefColumns.out (n : Int) (w : World) (hL : Aside0 (Lq w)) (hb : Aside0 (counterpanelaw5_begun.f 300 = some true)) (h0 : n < 0 ∨ 1099511627776 < n)
    (hs : Aside0 (a1_ColName.f 300 (-1) = some ⟨#[]⟩)) :
    Calls Tryd.prog 5 #[.int .i64 n] w fun e w' => e = .returned (.bool true) ∧ Below w.heap.size w w' := by
  have HB := Aside0.mk (Below.refl w.heap.size w)
  by_cases c : n < 0
  · have c0 : decide (n < 0) = true := decide_eq_true c
    go_enter Tryd.func5, Tryd.ntmps5
    go_wp2_with (first
      | ((with_reducible refine gate_callee (f := 7) rfl ?_); refine goesL_ (some 7) rfl rfl Tryd.func7 (by kernel_rfl) rfl #[] rfl (by (try simp only [List.map_toArray, List.map_cons, List.map_nil]); first | done | rfl) ?_; (with_reducible refine (counterpanelaw5_begun.calls (hL := ⟨hL.out.below HB.out⟩) 300 true _ hb.out).mono ?_); rintro e w9 ⟨rfl, hbb⟩; refine ⟨_, rfl, ?_⟩; have n1_ := Aside0.mk (below_step HB.out hbb); clear HB; have HB := n1_; clear n1_; clear hbb)
      | ((with_reducible refine gate_callee (f := 20) rfl ?_); (try (refine gate_guard (by rfl) ?_; dsimp only)); refine goesL_ (some 18) rfl rfl Tryd.func20 (by kernel_rfl) rfl #[.int .i64 (-1)] rfl (by (try simp only [List.map_toArray, List.map_cons, List.map_nil]); first | done | rfl) ?_; (with_reducible refine (a1_ColName.calls 300 (-1) ⟨#[]⟩ _ hs.out).mono ?_); rintro e w10 ⟨rfl, hbb⟩; refine ⟨_, rfl, ?_⟩; have n1_ := Aside0.mk (below_step HB.out hbb); clear HB; have HB := n1_; clear n1_; clear hbb))
    go_ret
    exact ⟨by first | rfl | (simp; done), HB.out⟩
  · have c0 : decide (n < 0) = false := decide_eq_false c
    have c1 : decide (1099511627776 < n) = true := decide_eq_true (by omega)
    go_enter Tryd.func5, Tryd.ntmps5
    go_wp2_with (first
      | ((with_reducible refine gate_callee (f := 7) rfl ?_); refine goesL_ (some 7) rfl rfl Tryd.func7 (by kernel_rfl) rfl #[] rfl (by (try simp only [List.map_toArray, List.map_cons, List.map_nil]); first | done | rfl) ?_; (with_reducible refine (counterpanelaw5_begun.calls (hL := ⟨hL.out.below HB.out⟩) 300 true _ hb.out).mono ?_); rintro e w9 ⟨rfl, hbb⟩; refine ⟨_, rfl, ?_⟩; have n1_ := Aside0.mk (below_step HB.out hbb); clear HB; have HB := n1_; clear n1_; clear hbb)
      | ((with_reducible refine gate_callee (f := 20) rfl ?_); (try (refine gate_guard (by rfl) ?_; dsimp only)); refine goesL_ (some 18) rfl rfl Tryd.func20 (by kernel_rfl) rfl #[.int .i64 (-1)] rfl (by (try simp only [List.map_toArray, List.map_cons, List.map_nil]); first | done | rfl) ?_; (with_reducible refine (a1_ColName.calls 300 (-1) ⟨#[]⟩ _ hs.out).mono ?_); rintro e w10 ⟨rfl, hbb⟩; refine ⟨_, rfl, ?_⟩; have n1_ := Aside0.mk (below_step HB.out hbb); clear HB; have HB := n1_; clear n1_; clear hbb))
    go_ret
    exact ⟨by first | rfl | (simp; done), HB.out⟩
end Go.Proofs.YtpabggjnkoehfaaDoor.ERef
