/- The walk of the reference's Scan. -/
import Derived.Test.YtlfckoeolcnniaaFrG
import Derived.Deep.RegionLaw
import Derived.Deep.RegionHeldLaw
import Derived.Deep.DrawnRows
namespace Go.Proofs.Ytlfckoeolcnniaa.Net
open Go.RowKit Go.Proofs.YtlfckoeolcnniaaW.PrintWords Go.Proofs.YtlfckoeolcnniaaW.PrintLast Go.Proofs.YtlfckoeolcnniaaW.PrintMore
set_option linter.unusedVariables false
set_option linter.unusedSimpArgs false
/-- a row of slices of bytes that are read -/
structure Rds (w0 w : World) (base : Nat) (v : Value) (G : List (Value × List Int)) : Prop where
  row : w.ownsRow base 27 1 v G.length (G.map (·.1))
  els : ∀ x ∈ G, RdB w0 x.1 x.2
attribute [local go_sem ↓] Go.wp_at_zero Go.wp_at_succ
theorem below_drewN {B : Nat} {w W : World} (h : Below B w W) (n : Nat) : Below B w (W.drewN n) := pw_below_drewN h n
theorem below_undrew {w w5 : World} {n : Nat} (h : Below (w.drewN n).drew.heap.size (w.drewN n).drew w5) : Below w.heap.size w w5 := ⟨h.os, h.tape, h.output, h.size, h.block⟩
theorem un4 {l : List Int} {a b c d : Int} (h : l = [a, b, c, d]) (ha : 0 ≤ a) (hb : 0 ≤ b) (hc : 0 ≤ c) (hd : 0 ≤ d) : (un l : Int) = a + b * 256 + c * 65536 + d * 16777216 := by
  subst h
  simp only [un]
  omega
theorem take4 {bs : List Int} {k : Nat} (h : k + 4 ≤ bs.length) : (bs.drop k).take 4 = [bs.getD k 0, bs.getD (k + 1) 0, bs.getD (k + 2) 0, bs.getD (k + 3) 0] := by
  apply List.ext_getElem?
  intro i
  rw [List.getElem?_take]
  by_cases hi : i < 4
  · rw [if_pos hi, List.getElem?_drop]
    have hg : ∀ j, j < 4 → bs[k + j]? = some (bs.getD (k + j) 0) := fun j hj => by rw [List.getD_eq_getElem?_getD, List.getElem?_eq_getElem (by omega)]; rfl
    rcases i with _ | _ | _ | _ | i
    · exact hg 0 (by omega)
    · exact hg 1 (by omega)
    · exact hg 2 (by omega)
    · exact hg 3 (by omega)
    · omega
  · rw [if_neg hi]
    rcases i with _ | _ | _ | _ | i <;> first | omega | rfl
theorem slice_run (A : Option Addr) (n c lo hi : Nat) (h1 : lo ≤ hi) (h2 : hi ≤ c) (x y : Int) (hx : x = lo) (hy : y = hi) :
    ∃ v, (∀ w : World, (Instr.sliceAt 27 (.slice A n c) (some (.int .i64 x)) (some (.int .i64 y)) none).run Try.prog w = .ok v w) ∧ ∀ (w0 : World) (bs : List Int), RdB w0 (.slice A n c) bs → hi ≤ n → RdB w0 v ((bs.drop lo).take (hi - lo)) ∧ CapOk v := by
  subst hx
  subst hy
  refine ⟨.slice (if c = lo then A else A.map (·.add lo)) (hi - lo) (c - lo), fun w => ?_, fun w0 bs h hn => ?_⟩
  · have e1 : (0 : Int) ≤ (lo : Int) := by omega
    have e2 : (lo : Int) ≤ (hi : Int) := by omega
    have e3 : (hi : Int) ≤ (c : Int) := by omega
    by_cases hc : c = lo
    · subst hc
      go_simp
    · go_simp
  · by_cases hc : c = lo
    · rw [if_pos hc]
      have h0 : hi - lo = 0 := by omega
      rw [h0, List.take_zero, show c - lo = 0 by omega]
      exact ⟨RdB.none0 w0 A, _, _, _, rfl, Nat.le_refl _⟩
    · rw [if_neg hc]
      exact ⟨h.sub (by omega), _, _, _, rfl, by omega⟩
theorem bstr_inj {a b : List Int} (ha : bytes a) (hb : bytes b) (h : bstr a = bstr b) : a = b := by
  have h1 : (a.map (fun x => UInt8.ofNat x.toNat)) = (b.map (fun x => UInt8.ofNat x.toNat)) := by
    have := congrArg (fun s : ByteArray => s.data.toList) h
    simpa [bstr] using this
  have key : ∀ (a b : List Int), bytes a → bytes b → a.map (fun x => UInt8.ofNat x.toNat) = b.map (fun x => UInt8.ofNat x.toNat) → a = b := by
    intro a
    induction a with
    | nil => intro b _ _ h; cases b with | nil => rfl | cons y r => simp at h
    | cons x r ih =>
      intro b ha hb h
      cases b with
      | nil => simp at h
      | cons y q =>
        simp only [List.map_cons, List.cons.injEq] at h
        have e1 := ha x (by simp)
        have e2 := hb y (by simp)
        have e3 : (UInt8.ofNat x.toNat).toNat = (UInt8.ofNat y.toNat).toNat := by rw [h.1]
        rw [UInt8.toNat_ofNat', UInt8.toNat_ofNat'] at e3
        rw [show x = y by omega, ih q (fun z hz => ha z (by simp [hz])) (fun z hz => hb z (by simp [hz])) h.2]
  exact key a b ha hb h1
theorem ba_ext {s t : ByteArray} (h : s.toList = t.toList) : s = t := by
  have e : ∀ u : ByteArray, u.toList = u.data.toList := fun u => by rw [ByteArray.toList_eq]
  rw [e, e] at h
  cases s; cases t
  simp at h
  rw [h]
theorem bstr_test {a b : List Int} (ha : bytes a) (hb : bytes b) : (a = b → (!(bstr a).toList == (bstr b).toList) = false) ∧ (a ≠ b → (!(bstr a).toList == (bstr b).toList) = true) := by
  refine ⟨fun h => by rw [h]; simp, fun h => ?_⟩
  cases hq : (bstr a).toList == (bstr b).toList with
  | false => rfl
  | true => exact absurd (bstr_inj ha hb (ba_ext (eq_of_beq hq))) h
theorem Rds.add {w0 w w' : World} {base : Nat} {v u v' : Value} {G : List (Value × List Int)} {x : List Int} (h : Rds w0 w base v G) (hu : RdB w0 u x) (hr : w'.ownsRow base 27 1 v' (G.map (·.1) ++ [u]).length (G.map (·.1) ++ [u])) : Rds w0 w' base v' (G ++ [(u, x)]) := by
  refine ⟨?_, fun y hy => ?_⟩
  · rw [List.map_append, List.length_append]
    rw [List.length_append, List.length_map] at hr
    exact hr
  · rcases List.mem_append.1 hy with hy | hy
    · exact h.els y hy
    · simp at hy
      subst hy
      exact hu
/-- what lies there is a record just if its head tells it -/
theorem seg_split {bs : List Int} {a n : Nat} (h : a + 8 + n ≤ bs.length) : (bs.drop a).take (8 + n) = (bs.drop a).take 4 ++ (bs.drop (a + 4)).take 4 ++ (bs.drop (a + 8)).take n := by
  rw [show 8 + n = 4 + (4 + n) by omega, List.take_add, List.drop_drop, List.take_add, List.drop_drop, List.append_assoc, show a + 4 + 4 = a + 8 by omega]
theorem le_un {l : List Int} (h : l.length = 4) (hb : bytes l) : le (un l) 4 = l := by
  match l, h with
  | [a, b, c, d], _ =>
    have ha := hb a (by simp)
    have hb' := hb b (by simp)
    have hc := hb c (by simp)
    have hd := hb d (by simp)
    have hu := un4 (l := [a, b, c, d]) rfl ha.1 hb'.1 hc.1 hd.1
    rw [le4, hu]
    congr 1
    · omega
    congr 1
    · omega
    congr 1
    · omega
    congr 1
    omega
theorem un_le (n : Nat) (h : n < 4294967296) : un (le n 4) = n := by
  have := un4 (le4 n) (by omega) (by omega) (by omega) (by omega)
  omega
theorem frm_is {bs x y : List Int} {a n : Nat} (h : a + 8 + n ≤ bs.length) (hx : (bs.drop (a + 8)).take n = x) (hy : (bs.drop a).take (8 + n) = y) (hn : un ((bs.drop a).take 4) = n) (hf : frm x = y) (hb : bytes bs) : crc ((bs.drop a).take 4 ++ (bs.drop (a + 8)).take n) = un ((bs.drop (a + 4)).take 4) := by
  rw [← hy, seg_split h, hx] at hf
  have hl : x.length = n := by rw [← hx, List.length_take, List.length_drop]; omega
  unfold frm at hf
  have e1 := (List.append_inj hf (by rw [List.length_append, List.length_append, le_len, le_len, List.length_take, List.length_take, List.length_drop, List.length_drop]; omega)).1
  have e2 := List.append_inj e1 (by rw [le_len, List.length_take, List.length_drop]; omega)
  rw [← e2.2, un_le, hx, ← e2.1]
  exact crc_lt _ (bytes_app (le_bytes _ _) (hx ▸ bytes_take (bytes_drop hb _) _))
theorem frm_of {bs x y : List Int} {a n : Nat} (h : a + 8 + n ≤ bs.length) (hx : (bs.drop (a + 8)).take n = x) (hy : (bs.drop a).take (8 + n) = y) (hn : un ((bs.drop a).take 4) = n) (hc : crc ((bs.drop a).take 4 ++ (bs.drop (a + 8)).take n) = un ((bs.drop (a + 4)).take 4)) (hb : bytes bs) : frm x = y := by
  have hl : x.length = n := by rw [← hx, List.length_take, List.length_drop]; omega
  have e1 : le n 4 = (bs.drop a).take 4 := by rw [← hn]; exact le_un (by rw [List.length_take, List.length_drop]; omega) (bytes_take (bytes_drop hb _) _)
  have e2 : le (un ((bs.drop (a + 4)).take 4)) 4 = (bs.drop (a + 4)).take 4 := le_un (by rw [List.length_take, List.length_drop]; omega) (bytes_take (bytes_drop hb _) _)
  unfold frm
  rw [← hy, seg_split h, hl, e1, ← hx, hc, e2]
set_option maxHeartbeats 16000000 in
set_option maxRecDepth 100000 in
theorem rscan_calls (w : World) (A : Option Addr) (c : Nat) (bs : List Int) (h : RdB w (.slice A bs.length c) bs) (hb : bytes bs) (hl : bs.length ≤ 100000000) (hc : bs.length ≤ c) :
    Calls Try.prog 25 #[.slice A bs.length c] w fun e w' => ∃ v G a, e = .returned (.tuple #[v, .int .i64 (a : Nat)]) ∧ Rds w w' w.heap.size v G ∧ Scanned bs (G.map (·.2)) a ∧ Below w.heap.size w w' := by
  have F := Aside0.mk h
  have FB := Aside0.mk hb
  obtain ⟨i0, hi, hz0, hz1, hz2⟩ := info_parts info27
  clear h hb
  go_enter Try.func25, Try.ntmps25
  go_wp2
  go_loopg [4, 5] (bs.length + 2) (fun kq v4 v5 w' => ∃ (G : List (Value × List Int)) (at_ : Nat), v5 = .int .i64 (at_ : Nat) ∧ at_ ≤ bs.length ∧ bs.length - at_ < kq ∧ Aside0 (Rds w w' w.heap.size v4 G) ∧ Aside0 (itr bs G.length = some (G.map (·.2), at_)) ∧ Aside0 (Below w.heap.size w w'))
  case atStart => exact ⟨[], 0, rfl, Nat.zero_le _, by omega, ⟨⟨own_nil _ _ _ _, by simp⟩⟩, ⟨rfl⟩, ⟨Below.refl _ _⟩⟩
  case round =>
    obtain ⟨G, at_, rfl, hat, hk, R0, I, B0⟩ := hrel
    have GL : Aside0 (8 * G.length ≤ at_) := ⟨(itr_pos bs _ I.out).2⟩
    obtain ⟨A4, c4, rfl⟩ := own_slice R0.out.row
    have q8 : IntKind.i64.wrap ((at_ : Int) + 8) = (at_ : Int) + 8 := by rw [IntKind.wrap_i64]; omega
    cases gk with
    | zero => omega
    | succ k2 =>
      by_cases k1 : bs.length < at_ + 8
      · have NB := Aside0.mk (rec1_short (bs := bs) (a := at_) (by omega))
        have d1 : decide ((at_ : Int) + 8 ≤ (bs.length : Int)) = false := decide_eq_false (by omega)
        go_wp2
        go_ret2
        exact ⟨_, G, at_, rfl, R0.out, ⟨by rw [List.length_map]; exact I.out, NB.out⟩, B0.out⟩
      have d1 : decide ((at_ : Int) + 8 ≤ (bs.length : Int)) = true := decide_eq_true (by omega)
      obtain ⟨a, rfl⟩ : ∃ a, A = some a := by
        obtain ⟨A', c', e, h1, h2⟩ := F.out
        injection e with e1 _ _
        subst e1
        cases A with
        | none => rw [(h1 rfl).1] at k1; simp at k1
        | some a => exact ⟨a, rfl⟩
      obtain ⟨n, hn4⟩ : ∃ n, un ((bs.drop at_).take 4) = n := ⟨_, rfl⟩
      have hnl : n < 4294967296 := by
        have := un_lt ((bs.drop at_).take 4) (bytes_take (bytes_drop FB.out _) _)
        rw [hn4, List.length_take, List.length_drop, Nat.min_eq_left (by omega)] at this
        exact this
      have hcells : ∀ j, at_ + j < bs.length → wr.cell? (a.add (at_ + j)) = some (.int .u8 (bs.getD (at_ + j) 0)) := fun j hj => (F.out.below B0.out).at (at_ + j) hj
      have hby : ∀ j, 0 ≤ bs.getD (at_ + j) 0 ∧ bs.getD (at_ + j) 0 < 256 := fun j => bytes_at FB.out _
      have hun := un4 (take4 (bs := bs) (k := at_) (by omega)) (hby 0).1 (hby 1).1 (hby 2).1 (hby 3).1
      rw [hn4] at hun
      have z0 := hcells 0 (by omega)
      have z1 := hcells 1 (by omega)
      have z2 := hcells 2 (by omega)
      have z3 := hcells 3 (by omega)
      have y0 := hby 0
      have y1 := hby 1
      have y2 := hby 2
      have y3 := hby 3
      clear hcells hby
      simp only [Nat.add_zero] at z0 y0 hun
      obtain ⟨x0, e0⟩ : ∃ x, bs.getD at_ 0 = x := ⟨_, rfl⟩
      obtain ⟨x1, e1⟩ : ∃ x, bs.getD (at_ + 1) 0 = x := ⟨_, rfl⟩
      obtain ⟨x2, e2⟩ : ∃ x, bs.getD (at_ + 2) 0 = x := ⟨_, rfl⟩
      obtain ⟨x3, e3⟩ : ∃ x, bs.getD (at_ + 3) 0 = x := ⟨_, rfl⟩
      rw [e0] at z0 y0 hun
      rw [e1] at z1 y1 hun
      rw [e2] at z2 y2 hun
      rw [e3] at z3 y3 hun
      clear e0 e1 e2 e3
      have z1 : wr.cell? ⟨a.block, a.off + (at_ + 1), none⟩ = some (.int .u8 x1) := z1
      have z2 : wr.cell? ⟨a.block, a.off + (at_ + 2), none⟩ = some (.int .u8 x2) := z2
      have z3 : wr.cell? ⟨a.block, a.off + (at_ + 3), none⟩ = some (.int .u8 x3) := z3
      have r0 : IntKind.i64.wrap x0 = x0 := by rw [IntKind.wrap_i64]; omega
      have r1 : IntKind.i64.wrap x1 = x1 := by rw [IntKind.wrap_i64]; omega
      have r2 : IntKind.i64.wrap x2 = x2 := by rw [IntKind.wrap_i64]; omega
      have r3 : IntKind.i64.wrap x3 = x3 := by rw [IntKind.wrap_i64]; omega
      have m1 : IntKind.i64.wrap (x1 * 256) = x1 * 256 := by rw [IntKind.wrap_i64]; omega
      have m2 : IntKind.i64.wrap (x2 * 65536) = x2 * 65536 := by rw [IntKind.wrap_i64]; omega
      have m3 : IntKind.i64.wrap (x3 * 16777216) = x3 * 16777216 := by rw [IntKind.wrap_i64]; omega
      have s1 : IntKind.i64.wrap (x0 + x1 * 256) = x0 + x1 * 256 := by rw [IntKind.wrap_i64]; omega
      have s2 : IntKind.i64.wrap (x0 + x1 * 256 + x2 * 65536) = x0 + x1 * 256 + x2 * 65536 := by rw [IntKind.wrap_i64]; omega
      have s3 : IntKind.i64.wrap (x0 + x1 * 256 + x2 * 65536 + x3 * 16777216) = n := by rw [IntKind.wrap_i64, ← hun]; omega
      have HN4 := Aside0.mk hn4
      clear hn4
      have hunA := Aside0.mk hun
      clear hun
      have p1 : IntKind.i64.wrap ((at_ : Int) + 1) = (at_ : Int) + 1 := by rw [IntKind.wrap_i64]; omega
      have p2 : IntKind.i64.wrap ((at_ : Int) + 2) = (at_ : Int) + 2 := by rw [IntKind.wrap_i64]; omega
      have p3 : IntKind.i64.wrap ((at_ : Int) + 3) = (at_ : Int) + 3 := by rw [IntKind.wrap_i64]; omega
      have t1 : ((at_ : Int) + 1).toNat = at_ + 1 := by omega
      have t2 : ((at_ : Int) + 2).toNat = at_ + 2 := by omega
      have t3 : ((at_ : Int) + 3).toNat = at_ + 3 := by omega
      have b0 : (0 : Int) ≤ (at_ : Int) := by omega
      have b0' : (at_ : Int) < (bs.length : Int) := by omega
      have b1 : (0 : Int) ≤ (at_ : Int) + 1 := by omega
      have b1' : (at_ : Int) + 1 < (bs.length : Int) := by omega
      have b2 : (0 : Int) ≤ (at_ : Int) + 2 := by omega
      have b2' : (at_ : Int) + 2 < (bs.length : Int) := by omega
      have b3 : (0 : Int) ≤ (at_ : Int) + 3 := by omega
      have b3' : (at_ : Int) + 3 < (bs.length : Int) := by omega
      go_wp2
      go_quiet (fail)
      clear z0 z1 z2 z3 y0 y1 y2 y3 r0 r1 r2 r3 m1 m2 m3 s1 s2 s3 b0 b0' b1 b1' b2 b2' b3 b3' p1 p2 p3 t1 t2 t3
      have qn : IntKind.i64.wrap ((at_ : Int) + 8 + (n : Int)) = (at_ : Int) + 8 + (n : Int) := by rw [IntKind.wrap_i64]; omega
      by_cases k3 : 4194304 < n
      · have NB := Aside0.mk (rec1_big (bs := bs) (a := at_) (by rw [HN4.out]; exact k3))
        have d3 : decide ((4194304 : Int) < (n : Int)) = true := decide_eq_true (by omega)
        go_wp2
        go_quiet (fail)
        go_wp2
        go_ret2
        exact ⟨_, G, at_, rfl, ⟨R0.out.row, R0.out.els⟩, ⟨by rw [List.length_map]; exact I.out, NB.out⟩, (below_drewN (below_drewN B0.out _) _)⟩
      have d3 : decide ((4194304 : Int) < (n : Int)) = false := decide_eq_false (by omega)
      by_cases k4 : bs.length < at_ + 8 + n
      · have NB := Aside0.mk (rec1_cut (bs := bs) (a := at_) (by rw [HN4.out]; exact k4))
        have d4 : decide ((bs.length : Int) < (at_ : Int) + 8 + (n : Int)) = true := decide_eq_true (by omega)
        go_wp2
        go_quiet (fail)
        go_wp2
        go_ret2
        exact ⟨_, G, at_, rfl, ⟨R0.out.row, R0.out.els⟩, ⟨by rw [List.length_map]; exact I.out, NB.out⟩, (below_drewN (below_drewN B0.out _) _)⟩
      have d4 : decide ((bs.length : Int) < (at_ : Int) + 8 + (n : Int)) = false := decide_eq_false (by omega)
      obtain ⟨v1, run1, hv1⟩ := slice_run (some a) bs.length c (at_ + 8) (at_ + 8 + n) (by omega) (by omega) ((at_ : Int) + 8) ((at_ : Int) + 8 + (n : Int)) (by omega) (by omega)
      obtain ⟨v2, run2, hv2⟩ := slice_run (some a) bs.length c at_ (at_ + 8 + n) (by omega) (by omega) (at_ : Int) ((at_ : Int) + 8 + (n : Int)) rfl (by omega)
      obtain ⟨x, hx⟩ : ∃ x, (bs.drop (at_ + 8)).take n = x := ⟨_, rfl⟩
      obtain ⟨y, hy⟩ : ∃ y, (bs.drop at_).take (8 + n) = y := ⟨_, rfl⟩
      have V1 := Aside0.mk (hv1 w bs F.out (by omega)).1
      have V2 := Aside0.mk (hv2 w bs F.out (by omega)).1
      rw [show at_ + 8 + n - (at_ + 8) = n by omega, hx] at V1
      rw [show at_ + 8 + n - at_ = 8 + n by omega, hy] at V2
      have HX := Aside0.mk hx
      have HY := Aside0.mk hy
      clear hx hy hv2
      obtain ⟨A1, n1, c1, rfl, _⟩ : ∃ A n c, v1 = .slice A n c ∧ n ≤ c := (hv1 w bs F.out (by omega)).2
      clear hv1
      have LG := Aside0.mk k4
      have LX : Aside0 (x.length = n) := ⟨by rw [← HX.out, List.length_take, List.length_drop]; omega⟩
      have XB : Aside0 (bytes x) := ⟨HX.out ▸ bytes_take (bytes_drop FB.out _) _⟩
      have YB : Aside0 (bytes y) := ⟨HY.out ▸ bytes_take (bytes_drop FB.out _) _⟩
      obtain ⟨S1, hS1⟩ : ∃ S, bstr (frm x) = S := ⟨_, rfl⟩
      obtain ⟨S2, hS2⟩ : ∃ S, bstr y = S := ⟨_, rfl⟩
      have HS1 := Aside0.mk hS1
      have HS2 := Aside0.mk hS2
      have key := bstr_test (frm_bytes x XB.out) YB.out
      rw [hS1, hS2] at key
      clear hS1 hS2
      by_cases k5 : frm x = y
      · have q5 := key.1 k5
        have NB : Aside0 (rec1 bs at_ = some x) := ⟨by
          have hh := frm_is (by omega) HX.out HY.out HN4.out k5 FB.out
          rw [rec1_some (bs := bs) (a := at_) (n := n) (by omega) HN4.out (by omega) (by omega) hh, HX.out]⟩
        have s8 : IntKind.i64.wrap (8 + (n : Int)) = 8 + (n : Int) := by rw [IntKind.wrap_i64]; omega
        have s9 : IntKind.i64.wrap ((at_ : Int) + (8 + (n : Int))) = (at_ : Int) + (8 + (n : Int)) := by rw [IntKind.wrap_i64]; omega
        clear key k5
        go_wp2
        go_region_held_law (fun w' => (convert 27 9 v2).run Try.prog w' = .ok (.string S2) w' ∧ Below w.heap.size w w') (first | exact ⟨by rw [← HS2.out]; exact run_backR _ v2 y (V2.out.below B5.out) YB.out, B5.out⟩ | exact ⟨by rw [← HS2.out]; exact run_backR _ v2 y (V2.out.below (below_drew (below_drewN B0.out _))) YB.out, below_drew (below_drewN B0.out _)⟩) (first
          | (refine goes_ Try.func23 (by kernel_rfl) rfl #[.slice A1 n1 c1] (by rfl) rfl rfl (by (try simp only [List.map_toArray, List.map_cons, List.map_nil]); first | done | rfl) ?_; refine (rframe_calls _ (.slice A1 n1 c1) x (V1.out.below (below_drew (below_drewN B0.out _))) XB.out (by have := LX.out; omega)).mono ?_; rintro e w5 ⟨v5, rfl, hH, hb⟩; refine ⟨_, rfl, ?_⟩; have H5 := Aside0.mk hH; have B5 := Aside0.mk (below_step (below_drew (below_drewN B0.out _)) hb); have cv5 : (convert 27 9 v5).run Try.prog w5 = .ok (.string S1) w5 := (by rw [← HS1.out]; exact run_backR _ v5 (frm x) (RdB.of_has H5.out) (frm_bytes _ XB.out)); have RH := Aside0.mk (below_undrew hb); clear hH hb))
        go_wp2_with (at_builtin; go_loud (refine print_append w.heap.size rfl (.tmp 73) (.tmp 82) 42 27 (.slice none 0 0) 24 rfl Try.underlying42 info27 rfl (by decide) (.slice A4 G.length c4) (G.map (·.1)) (.slice A1 n1 c1) (by rfl) (by rfl) rfl (by rw [List.length_map]; exact pw_own_below R0.out.row RH.out) B5.out B5.out.size (by rw [List.length_map]; have := GL.out; omega) ?_); intro v7 w7 hown hb hg _; have R7 : Aside0 (Rds w w7 w.heap.size v7 (G ++ [(Value.slice A1 n1 c1, x)])) := ⟨R0.out.add V1.out hown⟩; have B7 := Aside0.mk hb; clear hown hb hg)
        go_roundg k2
        case measure => omega
        case rel =>
          refine ⟨G ++ [(_, x)], at_ + 8 + n, by simp <;> omega, by omega, by omega, R7, ⟨?_⟩, B7⟩
          rw [List.length_append, List.length_singleton, itr, I.out, Option.bind_some, NB.out, Option.map_some, List.map_append, LX.out]
          rfl
      · have q5 := key.2 k5
        have NB : Aside0 (rec1 bs at_ = none) := ⟨by
          refine rec1_other (bs := bs) (a := at_) (n := n) HN4.out (fun hh => k5 ?_)
          exact frm_of (by omega) HX.out HY.out HN4.out hh FB.out⟩
        clear key k5
        go_wp2
        go_region_held_law (fun w' => (convert 27 9 v2).run Try.prog w' = .ok (.string S2) w' ∧ Below w.heap.size w w') (first | exact ⟨by rw [← HS2.out]; exact run_backR _ v2 y (V2.out.below B5.out) YB.out, B5.out⟩ | exact ⟨by rw [← HS2.out]; exact run_backR _ v2 y (V2.out.below (below_drew (below_drewN B0.out _))) YB.out, below_drew (below_drewN B0.out _)⟩) (first
          | (refine goes_ Try.func23 (by kernel_rfl) rfl #[.slice A1 n1 c1] (by rfl) rfl rfl (by (try simp only [List.map_toArray, List.map_cons, List.map_nil]); first | done | rfl) ?_; refine (rframe_calls _ (.slice A1 n1 c1) x (V1.out.below (below_drew (below_drewN B0.out _))) XB.out (by have := LX.out; omega)).mono ?_; rintro e w5 ⟨v5, rfl, hH, hb⟩; refine ⟨_, rfl, ?_⟩; have H5 := Aside0.mk hH; have B5 := Aside0.mk (below_step (below_drew (below_drewN B0.out _)) hb); have cv5 : (convert 27 9 v5).run Try.prog w5 = .ok (.string S1) w5 := (by rw [← HS1.out]; exact run_backR _ v5 (frm x) (RdB.of_has H5.out) (frm_bytes _ XB.out)); have RH := Aside0.mk (below_undrew hb); clear hH hb))
        go_wp2
        go_ret2
        exact ⟨_, G, at_, rfl, ⟨pw_own_below R0.out.row RH.out, R0.out.els⟩, ⟨by rw [List.length_map]; exact I.out, NB.out⟩, B5.out⟩
end Go.Proofs.Ytlfckoeolcnniaa.Net
