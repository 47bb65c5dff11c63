/- Walks of disk's laws: begun, DiskNone. -/
import Derived.Test.YtlfckoeolcnniaaDkG
import Derived.Test.YtlfckoeolcnniaaFrG
namespace Go.Proofs.Ytlfckoeolcnniaa.Net
open Go.RowKit Go.Proofs.YtlfckoeolcnniaaW.PrintWords Go.Proofs.YtlfckoeolcnniaaW.PrintLast Go.Proofs.YtlfckoeolcnniaaW.PrintMore
set_option linter.unusedVariables false
set_option linter.unusedSimpArgs false
attribute [local go_sem ↓] Go.wp_at_zero Go.wp_at_succ
def IB (vc : Value) (i l : Nat) (L : Ents) (W : World) : Prop := ByR W vc [120, 121, 122] ∧ ((i = 0 ∧ l = 2 ∧ L = []) ∨ (i = 1 ∧ l = 0 ∧ ∃ v', L = [(⟨#[97]⟩, v')] ∧ ByR W v' [120, 121]))
structure CutB (w w' : World) (p' : Nat) : Prop where
  out : ∃ f' s' v, Dk w' w.heap.size p' f' s' [(⟨#[97]⟩, v)] [(⟨#[97]⟩, v)] 2 2 (.slice none 0 0) [] ∧ ByR w' v [120, 121] ∧ Below w.heap.size w w'
theorem bcut (w : World) (base p f s : Nat) (F : Ents) (va vc : Value) (hD : Dk w base p f s F [] 0 4 va [(0, ⟨#[97]⟩, ⟨#[]⟩, vc), (2, ⟨#[97]⟩, ⟨#[98]⟩, .slice none 0 0)]) (hc : ByR w vc [120, 121, 122]) (hbase : base ≤ w.heap.size) :
    Calls Try.prog 32 #[.pointer (some ⟨p, 0, none⟩), .int .i64 2] w fun e w' => ∃ p', e = .returned (.pointer (some ⟨p', 0, none⟩)) ∧ CutB w w' p' := by
  obtain ⟨Ac, cc, rfl, hcc⟩ := hc.form
  refine (dcut_calls w base p f s F [] 0 4 va _ 2 2 (IB (.slice Ac 3 cc)) hD hbase (by show 2 ≤ 1000; decide) (by decide) (by decide) (by decide) ⟨hc, .inl ⟨rfl, rfl, rfl⟩⟩ ?_ ?_ ?_).mono ?_
  · rintro i l L W W' q ⟨h1, h2⟩ hk hq
    refine ⟨h1.ks hk hq, ?_⟩
    rcases h2 with h2 | ⟨h3, h4, v', h5, h6⟩
    · exact .inl h2
    · exact .inr ⟨h3, h4, v', h5, h6.ks hk hq⟩
  · intro i d hd
    match i with
    | 0 => obtain rfl := (Option.some.inj hd).symm; exact ⟨Ac, 3, cc, rfl, hcc, by decide, fun _ => by decide⟩
    | 1 => obtain rfl := (Option.some.inj hd).symm; exact ⟨none, 0, 0, rfl, by decide, by decide, fun h => by cases h⟩
    | i + 2 => cases hd
  · rintro i l L W m kind name to_ vb hd hl hm ⟨h1, h2⟩ hB hM
    rcases h2 with ⟨rfl, rfl, rfl⟩ | ⟨_, h, _⟩
    · have e := Option.some.inj hd
      injection e with e1 e
      injection e with e2 e
      injection e with e3 e4
      subst e1 e2 e3 e4
      refine (does_append W m [] ⟨#[97]⟩ ⟨#[]⟩ (.slice Ac 2 cc) [] [120, 121] hM (ByR.nil W) (h1.cut (by decide)) (by decide) (by decide) (by decide)).mono ?_
      rintro e w' ⟨rfl, v', h3, h4, h5⟩
      refine ⟨rfl, _, h3, ⟨h1.ks h5 (fun k hk ⟨cs, f', hb⟩ => ?_), .inr ⟨rfl, rfl, v', rfl, h4⟩⟩, h5⟩
      have hk' : k = m := hk
      subst hk'
      exact hM.no_cells hb
    · omega
  · rintro e w' ⟨p', rfl, ⟨f', s', L, i, l, hD', hil, ⟨h1, h2⟩, hB⟩⟩
    rcases h2 with ⟨rfl, rfl, rfl⟩ | ⟨rfl, rfl, v', rfl, h4⟩
    · rcases hil with h | h <;> cases h
    · exact ⟨p', rfl, ⟨f', s', v', hD', h4, hB⟩⟩
theorem rdB_xyz (w : World) : RdB (w.alloc (.cells #[.int .u8 120, .int .u8 121, .int .u8 122] 5 (3, 4))) (.slice (some ⟨w.heap.size, 0, none⟩) 3 3) [120, 121, 122] := rdB_lit w [120, 121, 122] (3, 4)
structure AppX (w w2 : World) (base p f s : Nat) : Prop where
  bel : ∀ w0 : World, w0.heap.size = base → Below w0.heap.size w0 w → Below w0.heap.size w0 w2
  out : ∃ v' vc va', Dk w2 base p f s [(⟨#[97]⟩, v')] [] 0 3 va' [(0, ⟨#[97]⟩, ⟨#[]⟩, vc)] ∧ ByR w2 v' [120, 121, 122] ∧ ByR w2 vc [120, 121, 122]
theorem dapp_xyz (w : World) (base p f s : Nat) (hD : Dk w base p f s [] [] 0 0 (.slice none 0 0) []) (hbase : base ≤ w.heap.size) :
    Calls Try.prog 26 #[.pointer (some ⟨p, 0, none⟩), .string ⟨#[97]⟩, .slice (some ⟨w.heap.size, 0, none⟩) 3 3] (w.alloc (.cells #[.int .u8 120, .int .u8 121, .int .u8 122] 5 (3, 4))) fun e w' => e = .returned (.tuple #[]) ∧ AppX w w' base p f s := by
  have hbel := below_alloc (Below.refl w.heap.size w) (.cells #[.int .u8 120, .int .u8 121, .int .u8 122] 5 (3, 4))
  refine (dappend_calls _ base p f s [] [] 0 0 (.slice none 0 0) [] ⟨#[97]⟩ _ [120, 121, 122] [] (hD.below hbel) (Nat.le_trans hbase hbel.size) (by decide) (by decide) (rdB_xyz w) (by decide) (by decide) (ByR.nil _) (by decide)).mono ?_
  rintro e w' ⟨rfl, v', vc, va', h1, h2, h3, h4⟩
  exact ⟨rfl, ⟨fun w0 he hb => below_ks (below_alloc hb _) h4 (fun k hk => by rw [he]; exact (hD.below hbel).S k hk), v', vc, va', h1, h2, h3⟩⟩
theorem ByR.one {w : World} {v : Value} {bs : List Int} (h : ByR w v bs) : v.oneCell' = true := by
  obtain ⟨A, c, rfl, _⟩ := h.form
  rfl
set_option maxHeartbeats 8000000 in
set_option maxRecDepth 100000 in
theorem dbegun_calls (w : World) : Calls Try.prog 30 #[] w fun e w' => e = .returned (.bool true) ∧ Below w.heap.size w w' := by
  have HA : Aside0 (bytes [120, 121, 122]) := ⟨by intro x hx; simp at hx; omega⟩
  have HB : Aside0 (bytes [120, 121]) := ⟨by intro x hx; simp at hx; omega⟩
  have hs2 : bstr [120, 121, 122] = ⟨#[120, 121, 122]⟩ := rfl
  have hs3 : bstr [120, 121] = ⟨#[120, 121]⟩ := rfl
  have kc := fun (w : World) (C : Array Value) (n c : Nat) => Lib.run_convert_bytes_const (P := Try.prog) w 27 5 C n c Try.underlying27 Try.underlying5
  go_enter Try.func30, Try.ntmps30
  go_wp2_with (first
    | ((with_reducible refine gate_callee (f := 33) rfl ?_); refine goesL_ (some 7) rfl rfl Try.func33 (by kernel_rfl) rfl #[] rfl (by (try simp only [List.map_toArray, List.map_cons, List.map_nil]); first | done | rfl) ?_; (refine (dnew_calls w).mono ?_); rintro e w1 ⟨p, f, s, rfl, hp, hf, hs, hne, hb, hF, hS, hbel⟩; refine ⟨_, rfl, ?_⟩; have D1 := Aside0.mk (show Dk w1 w.heap.size p f s [] [] 0 0 (.slice none 0 0) [] from ⟨hb, hF, hS, hne, hp, hf, hs, own_nil _ _ _ _⟩); have B1 := Aside0.mk hbel; clear hb hF hS hbel hne hp hf hs)
    | ((with_reducible refine gate_callee (f := 26) rfl ?_); refine goesL_ (some 13) rfl rfl Try.func26 (by kernel_rfl) rfl #[.pointer (some ⟨p, 0, none⟩), .string ⟨#[97]⟩, .slice (some ⟨w1.heap.size, 0, none⟩) 3 3] rfl (by (try simp only [List.map_toArray, List.map_cons, List.map_nil]); first | done | rfl) ?_; (refine (dapp_xyz w1 w.heap.size p f s D1.out B1.out.size).mono ?_); rintro e w2 ⟨rfl, hX⟩; refine ⟨_, rfl, ?_⟩; obtain ⟨v', vc, va', hD, hR, hC⟩ := hX.out; have B2 := Aside0.mk (hX.bel w rfl B1.out); have D2 := Aside0.mk hD; have R2 := Aside0.mk hR; have C2 := Aside0.mk hC; clear hX hD hR hC)
    | ((with_reducible refine gate_callee (f := 34) rfl ?_); refine goesL_ (some 15) rfl rfl Try.func34 (by kernel_rfl) rfl #[.pointer (some ⟨p, 0, none⟩), .string ⟨#[97]⟩, .string ⟨#[98]⟩] rfl (by (try simp only [List.map_toArray, List.map_cons, List.map_nil]); first | done | rfl) ?_; (refine (drename_calls w2 w.heap.size p f s [(⟨#[97]⟩, v')] [] 0 3 va' v' [(0, ⟨#[97]⟩, ⟨#[]⟩, vc)] ⟨#[97]⟩ ⟨#[98]⟩ D2.out B2.out.size (by show 1 ≤ 1000; decide) (by decide) rfl (R2.out.one)).mono ?_); rintro e w3 ⟨rfl, va3, hD, hK⟩; refine ⟨_, rfl, ?_⟩; have D3 := Aside0.mk (show Dk w3 w.heap.size p f s [(⟨#[98]⟩, v')] [] 0 4 va3 [(0, ⟨#[97]⟩, ⟨#[]⟩, vc), (2, ⟨#[97]⟩, ⟨#[98]⟩, .slice none 0 0)] from hD); have R3 := Aside0.mk (R2.out.ks hK D2.out.notB); have C3 := Aside0.mk (C2.out.ks hK D2.out.notB); have B3 := Aside0.mk (below_ks B2.out hK D2.out.S); clear hD hK)
    | ((with_reducible refine gate_callee (f := 32) rfl ?_); refine goesL_ (some 17) rfl rfl Try.func32 (by kernel_rfl) rfl #[.pointer (some ⟨p, 0, none⟩), .int .i64 2] rfl (by (try simp only [List.map_toArray, List.map_cons, List.map_nil]); first | done | rfl) ?_; (refine (bcut w3 w.heap.size p f s [(⟨#[98]⟩, v')] va3 vc D3.out C3.out B3.out.size).mono ?_); rintro e w4 ⟨p', rfl, hc⟩; refine ⟨_, rfl, ?_⟩; obtain ⟨f', s', v4, hD', hR', hb⟩ := hc.out; have D4 := Aside0.mk hD'; have R4 := Aside0.mk hR'; have E4 := Aside0.mk (D3.out.below hb); have S4 := Aside0.mk (R3.out.below hb); have B4 := Aside0.mk (below_step B3.out hb); clear hc hD' hR' hb)
    | ((with_reducible refine gate_callee (f := 29) rfl ?_); refine goesL_ (some 20) rfl rfl Try.func29 (by kernel_rfl) rfl #[.pointer (some ⟨p, 0, none⟩), .string ⟨#[98]⟩] rfl (by (try simp only [List.map_toArray, List.map_cons, List.map_nil]); first | done | rfl) ?_; (refine (dread_calls w4 w.heap.size p f s [(⟨#[98]⟩, v')] [] 0 4 va3 v' _ ⟨#[98]⟩ [120, 121, 122] true E4.out rfl rfl S4.out (by decide)).mono ?_); rintro e w5 ⟨v5, rfl, hH, hb⟩; refine ⟨_, rfl, ?_⟩; have H5 := Aside0.mk hH; have D5 := Aside0.mk (D4.out.below hb); have E5 := Aside0.mk (E4.out.below hb); have R5 := Aside0.mk (R4.out.below hb); have B5 := Aside0.mk (below_step B4.out hb); clear hH hb)
    | ((with_reducible refine gate_callee (f := 29) rfl ?_); refine goesL_ (some 27) rfl rfl Try.func29 (by kernel_rfl) rfl #[.pointer (some ⟨p', 0, none⟩), .string ⟨#[97]⟩] rfl (by (try simp only [List.map_toArray, List.map_cons, List.map_nil]); first | done | rfl) ?_; (refine (dread_calls w5 _ p' f' s' [(⟨#[97]⟩, v4)] [(⟨#[97]⟩, v4)] 2 2 (.slice none 0 0) v4 [] ⟨#[97]⟩ [120, 121] true D5.out rfl rfl R5.out (by decide)).mono ?_); rintro e w6 ⟨v6, rfl, hH, hb⟩; refine ⟨_, rfl, ?_⟩; have H6 := Aside0.mk hH; have G6 := Aside0.mk (pw_own_below H5.out hb); have D6 := Aside0.mk (D5.out.below hb); have E6 := Aside0.mk (E5.out.below hb); have B6 := Aside0.mk (below_step B5.out hb); clear hH hb)
    | ((with_reducible refine gate_callee (f := 31) rfl ?_); (try (refine gate_guard (by rfl) ?_; dsimp only)); refine goesL_ (some 38) rfl rfl Try.func31 (by kernel_rfl) rfl #[.pointer (some ⟨p, 0, none⟩)] rfl (by (try simp only [List.map_toArray, List.map_cons, List.map_nil]); first | done | rfl) ?_; (refine (dunits_calls w6 w.heap.size p f s _ _ _ _ _ _ E6.out).mono ?_); rintro e w7 ⟨rfl, hw7⟩; rw [hw7]; clear hw7 w7; refine ⟨_, rfl, ?_⟩)
    | ((with_reducible refine gate_callee (f := 31) rfl ?_); (try (refine gate_guard (by rfl) ?_; dsimp only)); refine goesL_ (some 51) rfl rfl Try.func31 (by kernel_rfl) rfl #[.pointer (some ⟨p', 0, none⟩)] rfl (by (try simp only [List.map_toArray, List.map_cons, List.map_nil]); first | done | rfl) ?_; (refine (dunits_calls w6 _ p' f' s' _ _ _ _ _ _ D6.out).mono ?_); rintro e w7 ⟨rfl, hw7⟩; rw [hw7]; clear hw7 w7; refine ⟨_, rfl, ?_⟩)
    | ((with_reducible refine gate_dst (N := 33) rfl ?_); (try (refine gate_guard (by rfl) ?_; dsimp only)); refine back_eventR rfl rfl v5 [120, 121, 122] rfl (RdB.of_has G6.out) HA.out ?_)
    | ((with_reducible refine gate_dst (N := 46) rfl ?_); (try (refine gate_guard (by rfl) ?_; dsimp only)); refine back_eventR rfl rfl v6 [120, 121] rfl (RdB.of_has H6.out) HB.out ?_))
  go_ret
  exact ⟨rfl, B6.out⟩
end Go.Proofs.Ytlfckoeolcnniaa.Net
