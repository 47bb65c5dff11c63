/- Walks of disk's laws: the plain side and the cut of DiskPrefix. -/
import Derived.Test.YtlfckoeolcnniaaDkH
namespace Go.Proofs.Ytlfckoeolcnniaa.Net
open Go.RowKit Go.Proofs.YtlfckoeolcnniaaW.PrintWords Go.Proofs.YtlfckoeolcnniaaW.PrintLast Go.Proofs.YtlfckoeolcnniaaW.PrintMore
set_option linter.unusedVariables false
set_option linter.unusedSimpArgs false
attribute [local go_sem ↓] Go.wp_at_zero Go.wp_at_succ
/-- how far the cut disk got: nothing behind the sync · the file made · bytes in it · renamed -/
def IP (vf vc : Value) (old fresh N : Nat) (i l : Nat) (L : Ents) (W : World) : Prop :=
  ByR W vf (List.replicate old 0) ∧ ByR W vc (List.replicate fresh 0) ∧
  ((i = 0 ∧ l = N ∧ L = [(⟨#[102]⟩, vf)]) ∨
   (i = 1 ∧ l + 1 = N ∧ ∃ v, L = [(⟨#[102]⟩, vf), (⟨#[103]⟩, v)] ∧ ByR W v []) ∨
   (i = 2 ∧ 2 ≤ N ∧ l = N - 1 - min (N - 1) fresh ∧ ∃ v, L = [(⟨#[102]⟩, vf), (⟨#[103]⟩, v)] ∧ ByR W v (List.replicate (min (N - 1) fresh) 0)) ∨
   (i = 3 ∧ fresh + 2 ≤ N ∧ ∃ v, L = [(⟨#[102]⟩, v)] ∧ ByR W v (List.replicate fresh 0)))
/-- what the cut disk holds -/
def Held (W : World) (old fresh r : Nat) (vf : Value) (L : Ents) : Prop :=
  if r = fresh + 2 then ∃ v, L = [(⟨#[102]⟩, v)] ∧ ByR W v (List.replicate fresh 0)
  else if r = 0 then ∃ v, L = [(⟨#[102]⟩, v)] ∧ ByR W v (List.replicate old 0)
  else ∃ v v', L = [(⟨#[102]⟩, v), (⟨#[103]⟩, v')] ∧ ByR W v (List.replicate old 0) ∧ ByR W v' (List.replicate (r - 1) 0)
structure CutP (w w' : World) (p' old fresh r N : Nat) (vf : Value) : Prop where
  out : ∃ f' s' L, Dk w' w.heap.size p' f' s' L L N N (.slice none 0 0) [] ∧ Held w' old fresh r vf L ∧ Below w.heap.size w w'
theorem pcut (w : World) (base p f s : Nat) (F : Ents) (va vf vc : Value) (old fresh N : Nat) (x : Int) (ho : 1 ≤ fresh) (ho4 : old ≤ 40) (hf4 : fresh ≤ 40)
    (hD : Dk w base p f s F [(⟨#[102]⟩, vf)] old (old + 1 + fresh + 1) va [(1, ⟨#[103]⟩, ⟨#[]⟩, .slice none 0 0), (0, ⟨#[103]⟩, ⟨#[]⟩, vc), (2, ⟨#[103]⟩, ⟨#[102]⟩, .slice none 0 0)])
    (hv : ByR w vf (List.replicate old 0)) (hc : ByR w vc (List.replicate fresh 0)) (hbase : base ≤ w.heap.size)
    (hN : min (max x old) ((old + 1 + fresh + 1 : Nat) : Int) = (N : Int)) (hN2 : old ≤ N) :
    Calls Try.prog 32 #[.pointer (some ⟨p, 0, none⟩), .int .i64 x] w fun e w' => ∃ p', e = .returned (.pointer (some ⟨p', 0, none⟩)) ∧ CutP w w' p' old fresh (N - old) N vf := by
  obtain ⟨Ac, cc, hvc, hcc⟩ := hc.form
  rw [List.length_replicate] at hvc hcc
  subst hvc
  have hNu : N ≤ old + 1 + fresh + 1 := by omega
  refine (dcut_calls w base p f s F _ old (old + 1 + fresh + 1) va _ x N (IP vf (.slice Ac fresh cc) old fresh (N - old)) hD hbase (by show 3 ≤ 1000; decide) (by omega) hN hN2 ⟨hv, hc, .inl ⟨rfl, rfl, rfl⟩⟩ ?_ ?_ ?_).mono ?_
  · rintro i l L W W' q ⟨h1, h0, h2⟩ hk hq
    refine ⟨h1.ks hk hq, h0.ks hk hq, ?_⟩
    rcases h2 with h2 | ⟨h3, h4, v, h5, h6⟩ | ⟨h3, h4, h5, v, h6, h7⟩ | ⟨h3, h4, v, h5, h6⟩
    · exact .inl h2
    · exact .inr (.inl ⟨h3, h4, v, h5, h6.ks hk hq⟩)
    · exact .inr (.inr (.inl ⟨h3, h4, h5, v, h6, h7.ks hk hq⟩))
    · exact .inr (.inr (.inr ⟨h3, h4, v, h5, h6.ks hk hq⟩))
  · intro i d hd
    match i with
    | 0 => obtain rfl := (Option.some.inj hd).symm; exact ⟨none, 0, 0, rfl, by decide, by decide, fun h => by cases h⟩
    | 1 => obtain rfl := (Option.some.inj hd).symm; exact ⟨Ac, fresh, cc, rfl, hcc, by omega, fun _ => by omega⟩
    | 2 => obtain rfl := (Option.some.inj hd).symm; exact ⟨none, 0, 0, rfl, by decide, by decide, fun h => by cases h⟩
    | i + 3 => cases hd
  · rintro i l L W m kind name to_ vb hd hl hm ⟨h1, h0, h2⟩ hB hM
    have nm : ∀ k, k = m → (∃ cs f', W.heap[k]? = some (.cells cs 5 f')) → False := fun k hk ⟨cs, f', hb⟩ => by subst hk; exact hM.no_cells hb
    rcases h2 with ⟨rfl, rfl, rfl⟩ | ⟨rfl, h4, v, rfl, h6⟩ | ⟨rfl, h4, h5, v, rfl, h7⟩ | ⟨rfl, _⟩
    · have e := Option.some.inj hd
      injection e with e1 e
      injection e with e2 e
      injection e with e3 e4
      subst e1 e2 e3 e4
      refine (does_create W m _ ⟨#[103]⟩ ⟨#[]⟩ none 0 0 hM).mono ?_
      rintro e w' ⟨rfl, v', h3, h4, h5⟩
      exact ⟨rfl, _, h3, ⟨h1.ks h5 nm, h0.ks h5 nm, .inr (.inl ⟨rfl, by show N - old - 1 + 1 = N - old; omega, v', rfl, h4⟩)⟩, h5⟩
    · have e := Option.some.inj hd
      injection e with e1 e
      injection e with e2 e
      injection e with e3 e4
      subst e1 e2 e3 e4
      have hlN : l = N - old - 1 := by omega
      have hcut := h0.cut (k := min l fresh) (Nat.min_le_right _ _)
      rw [List.take_replicate, show min (min l fresh) fresh = min l fresh by omega] at hcut
      refine (does_append W m _ ⟨#[103]⟩ ⟨#[]⟩ (.slice Ac (min l fresh) cc) [] (List.replicate (min l fresh) 0) hM h6 hcut (by rw [List.length_replicate]; omega) (by rw [List.length_replicate]; omega) (by decide)).mono ?_
      rintro e w' ⟨rfl, v', h3, h4', h5⟩
      refine ⟨rfl, _, h3, ⟨h1.ks h5 nm, h0.ks h5 nm, .inr (.inr (.inl ⟨rfl, by omega, ?_, v', rfl, ?_⟩))⟩, h5⟩
      · show l - min l fresh = _
        rw [← hlN]
      · rw [← hlN]
        exact h4'
    · have e := Option.some.inj hd
      injection e with e1 e
      injection e with e2 e
      injection e with e3 e4
      subst e1 e2 e3 e4
      have hfr : min (N - old - 1) fresh = fresh := by omega
      rw [hfr] at h7
      refine (does_rename W m _ ⟨#[103]⟩ ⟨#[102]⟩ none 0 0 v hM rfl h7.one).mono ?_
      rintro e w' ⟨rfl, h3, h5'⟩
      exact ⟨rfl, _, h3, ⟨h1.ks h5' nm, h0.ks h5' nm, .inr (.inr (.inr ⟨rfl, by omega, v, rfl, h7.ks h5' nm⟩))⟩, h5'⟩
    · cases hd
  · rintro e w' ⟨p', rfl, ⟨f', s', L, i, l, hD', hil, ⟨h1, h0, h2⟩, hB⟩⟩
    refine ⟨p', rfl, ⟨f', s', L, hD', ?_, hB⟩⟩
    unfold Held
    have h3' : i = 3 ∨ l = 0 := hil
    rcases h2 with ⟨rfl, rfl, rfl⟩ | ⟨rfl, h4, v, rfl, h6⟩ | ⟨rfl, h4, h5, v, rfl, h7⟩ | ⟨rfl, h4, v, rfl, h6⟩
    · rw [if_neg (by omega), if_pos (by omega)]
      exact ⟨vf, rfl, h1⟩
    · rw [if_neg (by omega), if_neg (by omega)]
      exact ⟨vf, v, rfl, h1, by rw [show N - old - 1 = 0 by omega]; exact h6⟩
    · rw [if_neg (by omega), if_neg (by omega)]
      exact ⟨vf, v, rfl, h1, by rw [show min (N - old - 1) fresh = N - old - 1 by omega] at h7; exact h7⟩
    · rw [if_pos (by omega)]
      exact ⟨v, rfl, h6⟩
end Go.Proofs.Ytlfckoeolcnniaa.Net
