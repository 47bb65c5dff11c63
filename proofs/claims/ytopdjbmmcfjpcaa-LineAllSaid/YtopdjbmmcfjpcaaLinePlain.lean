/-! Lines that come, go and move: plain numbers, no program. Conditions: none beyond those that each theorem names. -/
namespace Go.Proofs.Ytopdjbmmcfjpcaa.LinePlain
def less (n a : Int) : Int := if n > a then n - 1 else n
def ins (k g : Int) : Int := if k ≥ g then k + 1 else k
def insb (k g : Int) (b : Bool) : Int := if k > g ∨ k = g ∧ b = true then k + 1 else k
def mv (a t i : Int) : Int := if i = a then less t a else ins (less i a) (less t a)
def mg (a t g : Int) (b : Bool) : Int := insb (less g a) (less t a) b
theorem mvL (a t i : Int) (h : t < a) : mv a t i = if i = a then t else if i < t then i else if i < a then i + 1 else i := by
  unfold mv ins less; omega
theorem mvR (a t i : Int) (h : a + 1 < t) : mv a t i = if i = a then t - 1 else if i < a then i else if i < t then i - 1 else i := by
  unfold mv ins less; omega
theorem mgL (a t g : Int) (b : Bool) (h : t < a) : mg a t g b = if g < t then g else if g = t then (if b = true then g + 1 else g) else if g ≤ a then g + 1 else g := by
  unfold mg insb less; cases b <;> simp <;> omega
theorem mgR (a t g : Int) (b : Bool) (h : a + 1 < t) : mg a t g b = if g ≤ a then g else if g < t then g - 1 else if g = t then (if b = true then g else g - 1) else g := by
  unfold mg insb less; cases b <;> simp <;> omega

set_option maxHeartbeats 4000000 in
theorem tp_LL_lt (a t b s i : Int) (ha : t < a) (hb : s < b) (hab : a < b) (p q p' q' : Int)
   (hp : p = mv a t b) (hq : q = mg a t s true) (hp' : p' = mv b s a) (hq' : q' = mg b s t false) :
    (if q ≠ p ∧ q ≠ p + 1 then mv p q (mv a t i) else mv a t i) = (if q' ≠ p' ∧ q' ≠ p' + 1 then mv p' q' (mv b s i) else mv b s i) := by
  rw [mvL a t b ha] at hp; rw [mgL a t s true ha] at hq; rw [mvL b s a hb] at hp'; rw [mgL b s t false hb] at hq'
  rw [mvL a t i ha, mvL b s i hb]
  simp only [if_true, Bool.false_eq_true, if_false] at hq hq'
  split at hp <;> (try (exfalso; omega)) <;> (try (split at hp)) <;> (try (exfalso; omega)) <;> (try (split at hp)) <;> (try (exfalso; omega))
  all_goals (split at hp' <;> (try (exfalso; omega)) <;> (try (split at hp')) <;> (try (exfalso; omega)) <;> (try (split at hp')) <;> (try (exfalso; omega)))
  all_goals (split at hq <;> (try (exfalso; omega)) <;> (try (split at hq)) <;> (try (exfalso; omega)) <;> (try (split at hq)) <;> (try (exfalso; omega)))
  all_goals (split at hq' <;> (try (exfalso; omega)) <;> (try (split at hq')) <;> (try (exfalso; omega)) <;> (try (split at hq')) <;> (try (exfalso; omega)))
  all_goals (rcases (by omega : q < p ∨ p + 1 < q ∨ (q = p ∨ q = p + 1)) with h1 | h1 | h1 <;> (try (exfalso; omega)) <;> rcases (by omega : q' < p' ∨ p' + 1 < q' ∨ (q' = p' ∨ q' = p' + 1)) with h2 | h2 | h2 <;> (try (exfalso; omega)))
  all_goals (have e1 : (q ≠ p ∧ q ≠ p + 1) ∨ ¬ (q ≠ p ∧ q ≠ p + 1) := by omega)
  all_goals (have e2 : (q' ≠ p' ∧ q' ≠ p' + 1) ∨ ¬ (q' ≠ p' ∧ q' ≠ p' + 1) := by omega)
  all_goals (rcases e1 with e1 | e1 <;> (try (exfalso; omega)) <;> rcases e2 with e2 | e2 <;> (try (exfalso; omega)))
  all_goals (first | rw [if_pos e1] | rw [if_neg e1])
  all_goals (first | rw [if_pos e2] | rw [if_neg e2])
  all_goals (first | rw [mvL p q _ h1] | rw [mvR p q _ h1] | skip)
  all_goals (first | rw [mvL p' q' _ h2] | rw [mvR p' q' _ h2] | skip)
  all_goals omega

set_option maxHeartbeats 4000000 in
theorem tp_LL_gt (a t b s i : Int) (ha : t < a) (hb : s < b) (hab : b < a) (p q p' q' : Int)
   (hp : p = mv a t b) (hq : q = mg a t s true) (hp' : p' = mv b s a) (hq' : q' = mg b s t false) :
    (if q ≠ p ∧ q ≠ p + 1 then mv p q (mv a t i) else mv a t i) = (if q' ≠ p' ∧ q' ≠ p' + 1 then mv p' q' (mv b s i) else mv b s i) := by
  rw [mvL a t b ha] at hp; rw [mgL a t s true ha] at hq; rw [mvL b s a hb] at hp'; rw [mgL b s t false hb] at hq'
  rw [mvL a t i ha, mvL b s i hb]
  simp only [if_true, Bool.false_eq_true, if_false] at hq hq'
  split at hp <;> (try (exfalso; omega)) <;> (try (split at hp)) <;> (try (exfalso; omega)) <;> (try (split at hp)) <;> (try (exfalso; omega))
  all_goals (split at hp' <;> (try (exfalso; omega)) <;> (try (split at hp')) <;> (try (exfalso; omega)) <;> (try (split at hp')) <;> (try (exfalso; omega)))
  all_goals (split at hq <;> (try (exfalso; omega)) <;> (try (split at hq)) <;> (try (exfalso; omega)) <;> (try (split at hq)) <;> (try (exfalso; omega)))
  all_goals (split at hq' <;> (try (exfalso; omega)) <;> (try (split at hq')) <;> (try (exfalso; omega)) <;> (try (split at hq')) <;> (try (exfalso; omega)))
  all_goals (rcases (by omega : q < p ∨ p + 1 < q ∨ (q = p ∨ q = p + 1)) with h1 | h1 | h1 <;> (try (exfalso; omega)) <;> rcases (by omega : q' < p' ∨ p' + 1 < q' ∨ (q' = p' ∨ q' = p' + 1)) with h2 | h2 | h2 <;> (try (exfalso; omega)))
  all_goals (have e1 : (q ≠ p ∧ q ≠ p + 1) ∨ ¬ (q ≠ p ∧ q ≠ p + 1) := by omega)
  all_goals (have e2 : (q' ≠ p' ∧ q' ≠ p' + 1) ∨ ¬ (q' ≠ p' ∧ q' ≠ p' + 1) := by omega)
  all_goals (rcases e1 with e1 | e1 <;> (try (exfalso; omega)) <;> rcases e2 with e2 | e2 <;> (try (exfalso; omega)))
  all_goals (first | rw [if_pos e1] | rw [if_neg e1])
  all_goals (first | rw [if_pos e2] | rw [if_neg e2])
  all_goals (first | rw [mvL p q _ h1] | rw [mvR p q _ h1] | skip)
  all_goals (first | rw [mvL p' q' _ h2] | rw [mvR p' q' _ h2] | skip)
  all_goals omega

set_option maxHeartbeats 4000000 in
theorem tp_LR_lt (a t b s i : Int) (ha : t < a) (hb : b + 1 < s) (hab : a < b) (p q p' q' : Int)
   (hp : p = mv a t b) (hq : q = mg a t s true) (hp' : p' = mv b s a) (hq' : q' = mg b s t false) :
    (if q ≠ p ∧ q ≠ p + 1 then mv p q (mv a t i) else mv a t i) = (if q' ≠ p' ∧ q' ≠ p' + 1 then mv p' q' (mv b s i) else mv b s i) := by
  rw [mvL a t b ha] at hp; rw [mgL a t s true ha] at hq; rw [mvR b s a hb] at hp'; rw [mgR b s t false hb] at hq'
  rw [mvL a t i ha, mvR b s i hb]
  simp only [if_true, Bool.false_eq_true, if_false] at hq hq'
  split at hp <;> (try (exfalso; omega)) <;> (try (split at hp)) <;> (try (exfalso; omega)) <;> (try (split at hp)) <;> (try (exfalso; omega))
  all_goals (split at hp' <;> (try (exfalso; omega)) <;> (try (split at hp')) <;> (try (exfalso; omega)) <;> (try (split at hp')) <;> (try (exfalso; omega)))
  all_goals (split at hq <;> (try (exfalso; omega)) <;> (try (split at hq)) <;> (try (exfalso; omega)) <;> (try (split at hq)) <;> (try (exfalso; omega)))
  all_goals (split at hq' <;> (try (exfalso; omega)) <;> (try (split at hq')) <;> (try (exfalso; omega)) <;> (try (split at hq')) <;> (try (exfalso; omega)))
  all_goals (rcases (by omega : q < p ∨ p + 1 < q ∨ (q = p ∨ q = p + 1)) with h1 | h1 | h1 <;> (try (exfalso; omega)) <;> rcases (by omega : q' < p' ∨ p' + 1 < q' ∨ (q' = p' ∨ q' = p' + 1)) with h2 | h2 | h2 <;> (try (exfalso; omega)))
  all_goals (have e1 : (q ≠ p ∧ q ≠ p + 1) ∨ ¬ (q ≠ p ∧ q ≠ p + 1) := by omega)
  all_goals (have e2 : (q' ≠ p' ∧ q' ≠ p' + 1) ∨ ¬ (q' ≠ p' ∧ q' ≠ p' + 1) := by omega)
  all_goals (rcases e1 with e1 | e1 <;> (try (exfalso; omega)) <;> rcases e2 with e2 | e2 <;> (try (exfalso; omega)))
  all_goals (first | rw [if_pos e1] | rw [if_neg e1])
  all_goals (first | rw [if_pos e2] | rw [if_neg e2])
  all_goals (first | rw [mvL p q _ h1] | rw [mvR p q _ h1] | skip)
  all_goals (first | rw [mvL p' q' _ h2] | rw [mvR p' q' _ h2] | skip)
  all_goals omega

set_option maxHeartbeats 4000000 in
theorem tp_LR_gt (a t b s i : Int) (ha : t < a) (hb : b + 1 < s) (hab : b < a) (p q p' q' : Int)
   (hp : p = mv a t b) (hq : q = mg a t s true) (hp' : p' = mv b s a) (hq' : q' = mg b s t false) :
    (if q ≠ p ∧ q ≠ p + 1 then mv p q (mv a t i) else mv a t i) = (if q' ≠ p' ∧ q' ≠ p' + 1 then mv p' q' (mv b s i) else mv b s i) := by
  rw [mvL a t b ha] at hp; rw [mgL a t s true ha] at hq; rw [mvR b s a hb] at hp'; rw [mgR b s t false hb] at hq'
  rw [mvL a t i ha, mvR b s i hb]
  simp only [if_true, Bool.false_eq_true, if_false] at hq hq'
  split at hp <;> (try (exfalso; omega)) <;> (try (split at hp)) <;> (try (exfalso; omega)) <;> (try (split at hp)) <;> (try (exfalso; omega))
  all_goals (split at hp' <;> (try (exfalso; omega)) <;> (try (split at hp')) <;> (try (exfalso; omega)) <;> (try (split at hp')) <;> (try (exfalso; omega)))
  all_goals (split at hq <;> (try (exfalso; omega)) <;> (try (split at hq)) <;> (try (exfalso; omega)) <;> (try (split at hq)) <;> (try (exfalso; omega)))
  all_goals (split at hq' <;> (try (exfalso; omega)) <;> (try (split at hq')) <;> (try (exfalso; omega)) <;> (try (split at hq')) <;> (try (exfalso; omega)))
  all_goals (rcases (by omega : q < p ∨ p + 1 < q ∨ (q = p ∨ q = p + 1)) with h1 | h1 | h1 <;> (try (exfalso; omega)) <;> rcases (by omega : q' < p' ∨ p' + 1 < q' ∨ (q' = p' ∨ q' = p' + 1)) with h2 | h2 | h2 <;> (try (exfalso; omega)))
  all_goals (have e1 : (q ≠ p ∧ q ≠ p + 1) ∨ ¬ (q ≠ p ∧ q ≠ p + 1) := by omega)
  all_goals (have e2 : (q' ≠ p' ∧ q' ≠ p' + 1) ∨ ¬ (q' ≠ p' ∧ q' ≠ p' + 1) := by omega)
  all_goals (rcases e1 with e1 | e1 <;> (try (exfalso; omega)) <;> rcases e2 with e2 | e2 <;> (try (exfalso; omega)))
  all_goals (first | rw [if_pos e1] | rw [if_neg e1])
  all_goals (first | rw [if_pos e2] | rw [if_neg e2])
  all_goals (first | rw [mvL p q _ h1] | rw [mvR p q _ h1] | skip)
  all_goals (first | rw [mvL p' q' _ h2] | rw [mvR p' q' _ h2] | skip)
  all_goals omega

set_option maxHeartbeats 4000000 in
theorem tp_RL_lt (a t b s i : Int) (ha : a + 1 < t) (hb : s < b) (hab : a < b) (p q p' q' : Int)
   (hp : p = mv a t b) (hq : q = mg a t s true) (hp' : p' = mv b s a) (hq' : q' = mg b s t false) :
    (if q ≠ p ∧ q ≠ p + 1 then mv p q (mv a t i) else mv a t i) = (if q' ≠ p' ∧ q' ≠ p' + 1 then mv p' q' (mv b s i) else mv b s i) := by
  rw [mvR a t b ha] at hp; rw [mgR a t s true ha] at hq; rw [mvL b s a hb] at hp'; rw [mgL b s t false hb] at hq'
  rw [mvR a t i ha, mvL b s i hb]
  simp only [if_true, Bool.false_eq_true, if_false] at hq hq'
  split at hp <;> (try (exfalso; omega)) <;> (try (split at hp)) <;> (try (exfalso; omega)) <;> (try (split at hp)) <;> (try (exfalso; omega))
  all_goals (split at hp' <;> (try (exfalso; omega)) <;> (try (split at hp')) <;> (try (exfalso; omega)) <;> (try (split at hp')) <;> (try (exfalso; omega)))
  all_goals (split at hq <;> (try (exfalso; omega)) <;> (try (split at hq)) <;> (try (exfalso; omega)) <;> (try (split at hq)) <;> (try (exfalso; omega)))
  all_goals (split at hq' <;> (try (exfalso; omega)) <;> (try (split at hq')) <;> (try (exfalso; omega)) <;> (try (split at hq')) <;> (try (exfalso; omega)))
  all_goals (rcases (by omega : q < p ∨ p + 1 < q ∨ (q = p ∨ q = p + 1)) with h1 | h1 | h1 <;> (try (exfalso; omega)) <;> rcases (by omega : q' < p' ∨ p' + 1 < q' ∨ (q' = p' ∨ q' = p' + 1)) with h2 | h2 | h2 <;> (try (exfalso; omega)))
  all_goals (have e1 : (q ≠ p ∧ q ≠ p + 1) ∨ ¬ (q ≠ p ∧ q ≠ p + 1) := by omega)
  all_goals (have e2 : (q' ≠ p' ∧ q' ≠ p' + 1) ∨ ¬ (q' ≠ p' ∧ q' ≠ p' + 1) := by omega)
  all_goals (rcases e1 with e1 | e1 <;> (try (exfalso; omega)) <;> rcases e2 with e2 | e2 <;> (try (exfalso; omega)))
  all_goals (first | rw [if_pos e1] | rw [if_neg e1])
  all_goals (first | rw [if_pos e2] | rw [if_neg e2])
  all_goals (first | rw [mvL p q _ h1] | rw [mvR p q _ h1] | skip)
  all_goals (first | rw [mvL p' q' _ h2] | rw [mvR p' q' _ h2] | skip)
  all_goals omega

set_option maxHeartbeats 4000000 in
theorem tp_RL_gt (a t b s i : Int) (ha : a + 1 < t) (hb : s < b) (hab : b < a) (p q p' q' : Int)
   (hp : p = mv a t b) (hq : q = mg a t s true) (hp' : p' = mv b s a) (hq' : q' = mg b s t false) :
    (if q ≠ p ∧ q ≠ p + 1 then mv p q (mv a t i) else mv a t i) = (if q' ≠ p' ∧ q' ≠ p' + 1 then mv p' q' (mv b s i) else mv b s i) := by
  rw [mvR a t b ha] at hp; rw [mgR a t s true ha] at hq; rw [mvL b s a hb] at hp'; rw [mgL b s t false hb] at hq'
  rw [mvR a t i ha, mvL b s i hb]
  simp only [if_true, Bool.false_eq_true, if_false] at hq hq'
  split at hp <;> (try (exfalso; omega)) <;> (try (split at hp)) <;> (try (exfalso; omega)) <;> (try (split at hp)) <;> (try (exfalso; omega))
  all_goals (split at hp' <;> (try (exfalso; omega)) <;> (try (split at hp')) <;> (try (exfalso; omega)) <;> (try (split at hp')) <;> (try (exfalso; omega)))
  all_goals (split at hq <;> (try (exfalso; omega)) <;> (try (split at hq)) <;> (try (exfalso; omega)) <;> (try (split at hq)) <;> (try (exfalso; omega)))
  all_goals (split at hq' <;> (try (exfalso; omega)) <;> (try (split at hq')) <;> (try (exfalso; omega)) <;> (try (split at hq')) <;> (try (exfalso; omega)))
  all_goals (rcases (by omega : q < p ∨ p + 1 < q ∨ (q = p ∨ q = p + 1)) with h1 | h1 | h1 <;> (try (exfalso; omega)) <;> rcases (by omega : q' < p' ∨ p' + 1 < q' ∨ (q' = p' ∨ q' = p' + 1)) with h2 | h2 | h2 <;> (try (exfalso; omega)))
  all_goals (have e1 : (q ≠ p ∧ q ≠ p + 1) ∨ ¬ (q ≠ p ∧ q ≠ p + 1) := by omega)
  all_goals (have e2 : (q' ≠ p' ∧ q' ≠ p' + 1) ∨ ¬ (q' ≠ p' ∧ q' ≠ p' + 1) := by omega)
  all_goals (rcases e1 with e1 | e1 <;> (try (exfalso; omega)) <;> rcases e2 with e2 | e2 <;> (try (exfalso; omega)))
  all_goals (first | rw [if_pos e1] | rw [if_neg e1])
  all_goals (first | rw [if_pos e2] | rw [if_neg e2])
  all_goals (first | rw [mvL p q _ h1] | rw [mvR p q _ h1] | skip)
  all_goals (first | rw [mvL p' q' _ h2] | rw [mvR p' q' _ h2] | skip)
  all_goals omega

set_option maxHeartbeats 4000000 in
theorem tp_RR_lt (a t b s i : Int) (ha : a + 1 < t) (hb : b + 1 < s) (hab : a < b) (p q p' q' : Int)
   (hp : p = mv a t b) (hq : q = mg a t s true) (hp' : p' = mv b s a) (hq' : q' = mg b s t false) :
    (if q ≠ p ∧ q ≠ p + 1 then mv p q (mv a t i) else mv a t i) = (if q' ≠ p' ∧ q' ≠ p' + 1 then mv p' q' (mv b s i) else mv b s i) := by
  rw [mvR a t b ha] at hp; rw [mgR a t s true ha] at hq; rw [mvR b s a hb] at hp'; rw [mgR b s t false hb] at hq'
  rw [mvR a t i ha, mvR b s i hb]
  simp only [if_true, Bool.false_eq_true, if_false] at hq hq'
  split at hp <;> (try (exfalso; omega)) <;> (try (split at hp)) <;> (try (exfalso; omega)) <;> (try (split at hp)) <;> (try (exfalso; omega))
  all_goals (split at hp' <;> (try (exfalso; omega)) <;> (try (split at hp')) <;> (try (exfalso; omega)) <;> (try (split at hp')) <;> (try (exfalso; omega)))
  all_goals (split at hq <;> (try (exfalso; omega)) <;> (try (split at hq)) <;> (try (exfalso; omega)) <;> (try (split at hq)) <;> (try (exfalso; omega)))
  all_goals (split at hq' <;> (try (exfalso; omega)) <;> (try (split at hq')) <;> (try (exfalso; omega)) <;> (try (split at hq')) <;> (try (exfalso; omega)))
  all_goals (rcases (by omega : q < p ∨ p + 1 < q ∨ (q = p ∨ q = p + 1)) with h1 | h1 | h1 <;> (try (exfalso; omega)) <;> rcases (by omega : q' < p' ∨ p' + 1 < q' ∨ (q' = p' ∨ q' = p' + 1)) with h2 | h2 | h2 <;> (try (exfalso; omega)))
  all_goals (have e1 : (q ≠ p ∧ q ≠ p + 1) ∨ ¬ (q ≠ p ∧ q ≠ p + 1) := by omega)
  all_goals (have e2 : (q' ≠ p' ∧ q' ≠ p' + 1) ∨ ¬ (q' ≠ p' ∧ q' ≠ p' + 1) := by omega)
  all_goals (rcases e1 with e1 | e1 <;> (try (exfalso; omega)) <;> rcases e2 with e2 | e2 <;> (try (exfalso; omega)))
  all_goals (first | rw [if_pos e1] | rw [if_neg e1])
  all_goals (first | rw [if_pos e2] | rw [if_neg e2])
  all_goals (first | rw [mvL p q _ h1] | rw [mvR p q _ h1] | skip)
  all_goals (first | rw [mvL p' q' _ h2] | rw [mvR p' q' _ h2] | skip)
  all_goals omega

set_option maxHeartbeats 4000000 in
theorem tp_RR_gt (a t b s i : Int) (ha : a + 1 < t) (hb : b + 1 < s) (hab : b < a) (p q p' q' : Int)
   (hp : p = mv a t b) (hq : q = mg a t s true) (hp' : p' = mv b s a) (hq' : q' = mg b s t false) :
    (if q ≠ p ∧ q ≠ p + 1 then mv p q (mv a t i) else mv a t i) = (if q' ≠ p' ∧ q' ≠ p' + 1 then mv p' q' (mv b s i) else mv b s i) := by
  rw [mvR a t b ha] at hp; rw [mgR a t s true ha] at hq; rw [mvR b s a hb] at hp'; rw [mgR b s t false hb] at hq'
  rw [mvR a t i ha, mvR b s i hb]
  simp only [if_true, Bool.false_eq_true, if_false] at hq hq'
  split at hp <;> (try (exfalso; omega)) <;> (try (split at hp)) <;> (try (exfalso; omega)) <;> (try (split at hp)) <;> (try (exfalso; omega))
  all_goals (split at hp' <;> (try (exfalso; omega)) <;> (try (split at hp')) <;> (try (exfalso; omega)) <;> (try (split at hp')) <;> (try (exfalso; omega)))
  all_goals (split at hq <;> (try (exfalso; omega)) <;> (try (split at hq)) <;> (try (exfalso; omega)) <;> (try (split at hq)) <;> (try (exfalso; omega)))
  all_goals (split at hq' <;> (try (exfalso; omega)) <;> (try (split at hq')) <;> (try (exfalso; omega)) <;> (try (split at hq')) <;> (try (exfalso; omega)))
  all_goals (rcases (by omega : q < p ∨ p + 1 < q ∨ (q = p ∨ q = p + 1)) with h1 | h1 | h1 <;> (try (exfalso; omega)) <;> rcases (by omega : q' < p' ∨ p' + 1 < q' ∨ (q' = p' ∨ q' = p' + 1)) with h2 | h2 | h2 <;> (try (exfalso; omega)))
  all_goals (have e1 : (q ≠ p ∧ q ≠ p + 1) ∨ ¬ (q ≠ p ∧ q ≠ p + 1) := by omega)
  all_goals (have e2 : (q' ≠ p' ∧ q' ≠ p' + 1) ∨ ¬ (q' ≠ p' ∧ q' ≠ p' + 1) := by omega)
  all_goals (rcases e1 with e1 | e1 <;> (try (exfalso; omega)) <;> rcases e2 with e2 | e2 <;> (try (exfalso; omega)))
  all_goals (first | rw [if_pos e1] | rw [if_neg e1])
  all_goals (first | rw [if_pos e2] | rw [if_neg e2])
  all_goals (first | rw [mvL p q _ h1] | rw [mvR p q _ h1] | skip)
  all_goals (first | rw [mvL p' q' _ h2] | rw [mvR p' q' _ h2] | skip)
  all_goals omega


theorem tp_mm (a t b s i : Int) (ha : t ≠ a ∧ t ≠ a + 1) (hb : s ≠ b ∧ s ≠ b + 1) (hab : a ≠ b) :
    (if mg a t s true ≠ mv a t b ∧ mg a t s true ≠ mv a t b + 1 then mv (mv a t b) (mg a t s true) (mv a t i) else mv a t i) = (if mg b s t false ≠ mv b s a ∧ mg b s t false ≠ mv b s a + 1 then mv (mv b s a) (mg b s t false) (mv b s i) else mv b s i) := by
  rcases (by omega : t < a ∨ a + 1 < t) with h1 | h1 <;> rcases (by omega : s < b ∨ b + 1 < s) with h2 | h2 <;> rcases (by omega : a < b ∨ b < a) with h3 | h3
  · exact tp_LL_lt a t b s i h1 h2 h3 _ _ _ _ rfl rfl rfl rfl
  · exact tp_LL_gt a t b s i h1 h2 h3 _ _ _ _ rfl rfl rfl rfl
  · exact tp_LR_lt a t b s i h1 h2 h3 _ _ _ _ rfl rfl rfl rfl
  · exact tp_LR_gt a t b s i h1 h2 h3 _ _ _ _ rfl rfl rfl rfl
  · exact tp_RL_lt a t b s i h1 h2 h3 _ _ _ _ rfl rfl rfl rfl
  · exact tp_RL_gt a t b s i h1 h2 h3 _ _ _ _ rfl rfl rfl rfl
  · exact tp_RR_lt a t b s i h1 h2 h3 _ _ _ _ rfl rfl rfl rfl
  · exact tp_RR_gt a t b s i h1 h2 h3 _ _ _ _ rfl rfl rfl rfl
theorem ts_LL (a t s i : Int) (ha : t < a) (hb : s < a) (p q : Int) (hp : p = t) (hq : q = mg a t s true) :
    (if q ≠ p ∧ q ≠ p + 1 then mv p q (mv a t i) else mv a t i) = mv a s i := by
  rw [mgL a t s true ha] at hq
  rw [mvL a t i ha, mvL a s i hb]
  simp only [if_true] at hq
  (split at hq <;> (try (exfalso; omega)) <;> (try (split at hq)) <;> (try (exfalso; omega)) <;> (try (split at hq)) <;> (try (exfalso; omega)))
  all_goals (rcases (by omega : q < p ∨ p + 1 < q ∨ (q = p ∨ q = p + 1)) with h1 | h1 | h1 <;> (try (exfalso; omega)))
  all_goals (have e1 : (q ≠ p ∧ q ≠ p + 1) ∨ ¬ (q ≠ p ∧ q ≠ p + 1) := by omega)
  all_goals (rcases e1 with e1 | e1 <;> (try (exfalso; omega)))
  all_goals (first | rw [if_pos e1] | rw [if_neg e1])
  all_goals (first | rw [mvL p q _ h1] | rw [mvR p q _ h1] | skip)
  all_goals omega
theorem ts_LR (a t s i : Int) (ha : t < a) (hb : a + 1 < s) (p q : Int) (hp : p = t) (hq : q = mg a t s true) :
    (if q ≠ p ∧ q ≠ p + 1 then mv p q (mv a t i) else mv a t i) = mv a s i := by
  rw [mgL a t s true ha] at hq
  rw [mvL a t i ha, mvR a s i hb]
  simp only [if_true] at hq
  (split at hq <;> (try (exfalso; omega)) <;> (try (split at hq)) <;> (try (exfalso; omega)) <;> (try (split at hq)) <;> (try (exfalso; omega)))
  all_goals (rcases (by omega : q < p ∨ p + 1 < q ∨ (q = p ∨ q = p + 1)) with h1 | h1 | h1 <;> (try (exfalso; omega)))
  all_goals (have e1 : (q ≠ p ∧ q ≠ p + 1) ∨ ¬ (q ≠ p ∧ q ≠ p + 1) := by omega)
  all_goals (rcases e1 with e1 | e1 <;> (try (exfalso; omega)))
  all_goals (first | rw [if_pos e1] | rw [if_neg e1])
  all_goals (first | rw [mvL p q _ h1] | rw [mvR p q _ h1] | skip)
  all_goals omega
theorem ts_RL (a t s i : Int) (ha : a + 1 < t) (hb : s < a) (p q : Int) (hp : p = t - 1) (hq : q = mg a t s true) :
    (if q ≠ p ∧ q ≠ p + 1 then mv p q (mv a t i) else mv a t i) = mv a s i := by
  rw [mgR a t s true ha] at hq
  rw [mvR a t i ha, mvL a s i hb]
  simp only [if_true] at hq
  (split at hq <;> (try (exfalso; omega)) <;> (try (split at hq)) <;> (try (exfalso; omega)) <;> (try (split at hq)) <;> (try (exfalso; omega)))
  all_goals (rcases (by omega : q < p ∨ p + 1 < q ∨ (q = p ∨ q = p + 1)) with h1 | h1 | h1 <;> (try (exfalso; omega)))
  all_goals (have e1 : (q ≠ p ∧ q ≠ p + 1) ∨ ¬ (q ≠ p ∧ q ≠ p + 1) := by omega)
  all_goals (rcases e1 with e1 | e1 <;> (try (exfalso; omega)))
  all_goals (first | rw [if_pos e1] | rw [if_neg e1])
  all_goals (first | rw [mvL p q _ h1] | rw [mvR p q _ h1] | skip)
  all_goals omega
theorem ts_RR (a t s i : Int) (ha : a + 1 < t) (hb : a + 1 < s) (p q : Int) (hp : p = t - 1) (hq : q = mg a t s true) :
    (if q ≠ p ∧ q ≠ p + 1 then mv p q (mv a t i) else mv a t i) = mv a s i := by
  rw [mgR a t s true ha] at hq
  rw [mvR a t i ha, mvR a s i hb]
  simp only [if_true] at hq
  (split at hq <;> (try (exfalso; omega)) <;> (try (split at hq)) <;> (try (exfalso; omega)) <;> (try (split at hq)) <;> (try (exfalso; omega)))
  all_goals (rcases (by omega : q < p ∨ p + 1 < q ∨ (q = p ∨ q = p + 1)) with h1 | h1 | h1 <;> (try (exfalso; omega)))
  all_goals (have e1 : (q ≠ p ∧ q ≠ p + 1) ∨ ¬ (q ≠ p ∧ q ≠ p + 1) := by omega)
  all_goals (rcases e1 with e1 | e1 <;> (try (exfalso; omega)))
  all_goals (first | rw [if_pos e1] | rw [if_neg e1])
  all_goals (first | rw [mvL p q _ h1] | rw [mvR p q _ h1] | skip)
  all_goals omega
/-- the same line moved twice: the later one in the log counts -/
theorem tp_same (a t s i : Int) (ha : t ≠ a ∧ t ≠ a + 1) (hb : s ≠ a ∧ s ≠ a + 1) :
    (if mg a t s true ≠ mv a t a ∧ mg a t s true ≠ mv a t a + 1 then mv (mv a t a) (mg a t s true) (mv a t i) else mv a t i) = mv a s i := by
  rcases (by omega : t < a ∨ a + 1 < t) with h1 | h1 <;> rcases (by omega : s < a ∨ a + 1 < s) with h2 | h2
  · exact ts_LL a t s i h1 h2 _ _ (by rw [mvL a t a h1, if_pos rfl]) rfl
  · exact ts_LR a t s i h1 h2 _ _ (by rw [mvL a t a h1, if_pos rfl]) rfl
  · exact ts_RL a t s i h1 h2 _ _ (by rw [mvR a t a h1, if_pos rfl]) rfl
  · exact ts_RR a t s i h1 h2 _ _ (by rw [mvR a t a h1, if_pos rfl]) rfl

def MayP (k a t : Int) : Prop := ((k = 1 ∨ k = 2) ∧ 0 ≤ a ∧ a < 2199023255552 ∧ t = 0) ∨ (k = 3 ∧ 0 ≤ a ∧ a < 2199023255552 ∧ 0 ≤ t ∧ t < 2199023255552 ∧ t ≠ a ∧ t ≠ a + 1)
instance (k a t : Int) : Decidable (MayP k a t) := by unfold MayP; infer_instance
def may (k a t : Int) : Bool := decide (MayP k a t)
theorem may_iff (k a t : Int) : may k a t = true ↔ MayP k a t := by simp [may]
def ixv (k a t i : Int) : Int := if k = 1 then ins i a else if k = 2 then (if i = a then -1 else less i a) else mv a t i
def ix (k a t i : Int) : Int := if 0 ≤ i ∧ i ≤ 1152921504606846976 ∧ MayP k a t then ixv k a t i else -1
def gpv (k a t g : Int) (b : Bool) : Int := if k = 1 then insb g a b else if k = 2 then less g a else mg a t g b
def gp (k a t g : Int) (b : Bool) : Int := if 0 ≤ g ∧ g ≤ 1152921504606846976 ∧ MayP k a t then gpv k a t g b else -1
def bkv (k a t i : Int) : Int := if k = 1 then (if i = a then -1 else less i a) else if k = 2 then (if i = 1152921504606846976 ∧ i ≥ a then -1 else ins i a) else if i = less t a then a else ins (less i (less t a)) a
def bk (k a t i : Int) : Int := if 0 ≤ i ∧ i ≤ 1152921504606846976 ∧ MayP k a t then bkv k a t i else -1
/-- what comes out: kind, place, gap, and whether there is one -/
def tr (k a t l b s : Int) (prior : Bool) : Int × Int × Int × Bool :=
  if MayP k a t ∧ MayP l b s ∧ ¬ (k = 3 ∧ l = 3 ∧ a = b ∧ prior = true) then
    (if MayP k (if k = 1 then gp l b s a (!prior) else ix l b s a) (if k = 3 then gp l b s t (!prior) else t) then
      (k, (if k = 1 then gp l b s a (!prior) else ix l b s a), (if k = 3 then gp l b s t (!prior) else t), true) else (0, 0, 0, false))
  else (0, 0, 0, false)
/-- where a line goes by an operation that may be none -/
def go (r : Int × Int × Int × Bool) (i : Int) : Int := if i < 0 ∨ r.2.2.2 = false then i else ix r.1 r.2.1 r.2.2.1 i

theorem gp_range (k a t g : Int) (b : Bool) (hm : MayP k a t) (h0 : 0 ≤ g) (h1 : g ≤ 1152921504606846976) : 0 ≤ gp k a t g b ∧ gp k a t g b ≤ g + 1 ∧ g - 1 ≤ gp k a t g b := by
  unfold gp; rw [if_pos ⟨h0, h1, hm⟩]; unfold gpv
  unfold MayP at hm
  split
  · unfold insb; split <;> omega
  · split
    · unfold less; split <;> omega
    · rcases (by omega : t < a ∨ a + 1 < t) with h | h
      · rw [mgL a t g b h]; cases b <;> simp <;> omega
      · rw [mgR a t g b h]; cases b <;> simp <;> omega
theorem ix_up (k a t i : Int) : ix k a t i ≤ i + 1 ∨ (k = 3 ∧ i = a) ∨ i < -1 := by
  unfold ix
  split
  · rename_i h
    obtain ⟨_, _, hm⟩ := h
    unfold ixv ins less
    unfold MayP at hm
    split
    · omega
    · split
      · omega
      · rcases (by omega : t < a ∨ a + 1 < t) with h | h
        · rw [mvL a t i h]; omega
        · rw [mvR a t i h]; omega
  · omega

theorem mv_range (a t i : Int) (h : t ≠ a ∧ t ≠ a + 1) (hi : 0 ≤ i) (_ha : 0 ≤ a) (ht : 0 ≤ t) : 0 ≤ mv a t i ∧ (mv a t i ≤ i + 1 ∨ mv a t i ≤ t) := by
  rcases (by omega : t < a ∨ a + 1 < t) with h | h
  · rw [mvL a t i h]; omega
  · rw [mvR a t i h]; omega
theorem mg_range (a t g : Int) (b : Bool) (h : t ≠ a ∧ t ≠ a + 1) (hg : 0 ≤ g) (_ha : 0 ≤ a) (_ht : 0 ≤ t) : 0 ≤ mg a t g b ∧ mg a t g b ≤ g + 1 := by
  rcases (by omega : t < a ∨ a + 1 < t) with h | h
  · rw [mgL a t g b h]; cases b <;> simp <;> omega
  · rw [mgR a t g b h]; cases b <;> simp <;> omega
def N : Int := 1099511628776
theorem ixv_range (k a t i : Int) (hm : MayP k a t) (hi : 0 ≤ i) : (k = 2 ∧ i = a ∧ ixv k a t i = -1) ∨ (¬ (k = 2 ∧ i = a) ∧ 0 ≤ ixv k a t i ∧ (ixv k a t i ≤ i + 1 ∨ (k = 3 ∧ ixv k a t i ≤ t))) := by
  unfold MayP at hm
  unfold ixv ins less
  split
  · rename_i h; subst h; omega
  · split
    · rename_i h; subst h; omega
    · have := mv_range a t i (by omega) hi (by omega) (by omega); omega
theorem gpv_range (k a t g : Int) (b : Bool) (hm : MayP k a t) (hi : 0 ≤ g) : 0 ≤ gpv k a t g b ∧ gpv k a t g b ≤ g + 1 := by
  unfold MayP at hm
  unfold gpv insb less
  split
  · omega
  · split
    · omega
    · have := mg_range a t g b (by omega) hi (by omega) (by omega); omega
theorem tr_one (a l b s : Int) (pr : Bool) (ha : MayP 1 a 0) (hb : MayP l b s) (h1 : a ≤ N) : tr 1 a 0 l b s pr = (1, gpv l b s a (!pr), 0, true) := by
  have h0 : 0 ≤ a := by unfold MayP at ha; omega
  have := gpv_range l b s a (!pr) hb h0
  unfold N at h1
  have e : gp l b s a (!pr) = gpv l b s a (!pr) := by unfold gp; rw [if_pos ⟨h0, by omega, hb⟩]
  unfold tr
  rw [if_pos ⟨ha, hb, by omega⟩]
  simp only [if_true, if_false, Int.reduceEq]
  rw [e, if_pos (by unfold MayP; omega)]
theorem tr_two (a l b s : Int) (pr : Bool) (ha : MayP 2 a 0) (hb : MayP l b s) (h1 : a ≤ N) (h2 : s ≤ N) : tr 2 a 0 l b s pr = if l = 2 ∧ a = b then (0, 0, 0, false) else (2, ixv l b s a, 0, true) := by
  have h0 : 0 ≤ a := by unfold MayP at ha; omega
  have := ixv_range l b s a hb h0
  unfold N at h1 h2
  have e : ix l b s a = ixv l b s a := by unfold ix; rw [if_pos ⟨h0, by omega, hb⟩]
  unfold tr
  rw [if_pos ⟨ha, hb, by omega⟩]
  simp only [if_false, Int.reduceEq]
  rw [e]
  by_cases c : l = 2 ∧ a = b
  · rw [if_pos c, if_neg (by unfold MayP; omega)]
  · rw [if_neg c, if_pos (by unfold MayP; omega)]
theorem tr_three (a t l b s : Int) (pr : Bool) (ha : MayP 3 a t) (hb : MayP l b s) (h1 : a ≤ N) (h2 : s ≤ N) (h3 : t ≤ N) : tr 3 a t l b s pr = if (l = 3 ∧ a = b ∧ pr = true) ∨ (l = 2 ∧ a = b) ∨ gpv l b s t (!pr) = ixv l b s a ∨ gpv l b s t (!pr) = ixv l b s a + 1 then (0, 0, 0, false) else (3, ixv l b s a, gpv l b s t (!pr), true) := by
  have h0 : 0 ≤ a := by unfold MayP at ha; omega
  have ht : 0 ≤ t := by unfold MayP at ha; omega
  have := ixv_range l b s a hb h0
  have := gpv_range l b s t (!pr) hb ht
  unfold N at h1 h2 h3
  have e : ix l b s a = ixv l b s a := by unfold ix; rw [if_pos ⟨h0, by omega, hb⟩]
  have e' : gp l b s t (!pr) = gpv l b s t (!pr) := by unfold gp; rw [if_pos ⟨ht, by omega, hb⟩]
  unfold tr
  by_cases c0 : l = 3 ∧ a = b ∧ pr = true
  · rw [if_neg (by intro h; exact h.2.2 ⟨rfl, c0⟩), if_pos (.inl c0)]
  · rw [if_pos ⟨ha, hb, by intro h; exact c0 h.2⟩]
    simp only [if_true, if_false, Int.reduceEq]
    rw [e, e']
    by_cases c : (l = 2 ∧ a = b) ∨ gpv l b s t (!pr) = ixv l b s a ∨ gpv l b s t (!pr) = ixv l b s a + 1
    · have n : ¬ MayP 3 (ixv l b s a) (gpv l b s t (!pr)) := by unfold MayP; omega
      rw [if_neg n, if_pos (.inr c)]
    · have y : MayP 3 (ixv l b s a) (gpv l b s t (!pr)) := by unfold MayP; omega
      rw [if_pos y, if_neg (by intro h; exact h.elim c0 c)]
/-- what a transformed operation is bounded by -/
theorem tr_bound (k a t l b s : Int) (pr : Bool) (ha : MayP k a t) (hb : MayP l b s) (h1 : a ≤ N) (h2 : s ≤ N) (h3 : t ≤ N) (m : Int) (hm : a ≤ m ∧ t ≤ m ∧ s ≤ m) (ok : (tr k a t l b s pr).2.2.2 = true) :
    MayP (tr k a t l b s pr).1 (tr k a t l b s pr).2.1 (tr k a t l b s pr).2.2.1 ∧ (tr k a t l b s pr).1 = k ∧ (tr k a t l b s pr).2.1 ≤ m + 1 ∧ (tr k a t l b s pr).2.2.1 ≤ m + 1 := by
  have h0 : 0 ≤ a := by unfold MayP at ha; omega
  have hk : k = 1 ∨ k = 2 ∨ k = 3 := by unfold MayP at ha; omega
  have ht : 0 ≤ t := by unfold MayP at ha; omega
  have r1 := ixv_range l b s a hb h0
  have r2 := gpv_range l b s a (!pr) hb h0
  have r3 := gpv_range l b s t (!pr) hb ht
  unfold N at *
  rcases hk with rfl | rfl | rfl
  · obtain rfl : t = 0 := by unfold MayP at ha; omega
    rw [tr_one a l b s pr ha hb h1] at ok ⊢
    exact ⟨(by show MayP 1 (gpv l b s a (!pr)) 0; unfold MayP; omega), rfl, by simp only; omega, by simp only; omega⟩
  · obtain rfl : t = 0 := by unfold MayP at ha; omega
    rw [tr_two a l b s pr ha hb h1 h2] at ok ⊢
    by_cases c : l = 2 ∧ a = b
    · rw [if_pos c] at ok; cases ok
    · rw [if_neg c]
      exact ⟨(by show MayP 2 (ixv l b s a) 0; unfold MayP; omega), rfl, by simp only; omega, by simp only; omega⟩
  · rw [tr_three a t l b s pr ha hb h1 h2 h3] at ok ⊢
    by_cases c : (l = 3 ∧ a = b ∧ pr = true) ∨ (l = 2 ∧ a = b) ∨ gpv l b s t (!pr) = ixv l b s a ∨ gpv l b s t (!pr) = ixv l b s a + 1
    · rw [if_pos c] at ok; cases ok
    · rw [if_neg c]
      exact ⟨(by show MayP 3 (ixv l b s a) (gpv l b s t (!pr)); unfold MayP; omega), rfl, by simp only; omega, by simp only; omega⟩
theorem go_some (k a t i : Int) (hm : MayP k a t) (h1 : i ≤ 1152921504606846976) : go (k, a, t, true) i = if i < 0 then i else ixv k a t i := by
  unfold go
  by_cases c : i < 0
  · rw [if_pos (.inl c), if_pos c]
  · rw [if_neg (by intro h; exact h.elim c (fun h => by cases h)), if_neg c]
    unfold ix
    rw [if_pos ⟨by omega, h1, hm⟩]
theorem go_none (i : Int) : go (0, 0, 0, false) i = i := by
  unfold go; rw [if_pos (.inr rfl)]
theorem ix_ixv (k a t i : Int) (hm : MayP k a t) (h0 : 0 ≤ i) (h1 : i ≤ 1152921504606846976) : ix k a t i = ixv k a t i := by
  unfold ix; rw [if_pos ⟨h0, h1, hm⟩]

theorem s13 (a b s i : Int) (h : s ≠ b ∧ s ≠ b + 1) : mv (ins b a) (insb s a true) (ins i a) = ins (mv b s i) (mg b s a false) ∧ insb s a true ≠ ins b a ∧ insb s a true ≠ ins b a + 1 := by
  obtain ⟨p, hp⟩ : ∃ p, p = ins b a := ⟨_, rfl⟩
  obtain ⟨q, hq⟩ : ∃ q, q = insb s a true := ⟨_, rfl⟩
  rw [← hp, ← hq]
  unfold ins at hp; unfold insb at hq
  simp only [and_true] at hq
  rcases (by omega : s < b ∨ b + 1 < s) with h1 | h1
  · rw [mvL p q _ (by omega), mvL b s i h1, mgL b s a false h1]
    simp only [Bool.false_eq_true, if_false]
    unfold ins
    split at hp <;> split at hq <;> (try (exfalso; omega)) <;> omega
  · rw [mvR p q _ (by omega), mvR b s i h1, mgR b s a false h1]
    simp only [Bool.false_eq_true, if_false]
    unfold ins
    split at hp <;> split at hq <;> (try (exfalso; omega)) <;> omega
theorem s31 (a t b i : Int) (h : t ≠ a ∧ t ≠ a + 1) : ins (mv a t i) (mg a t b true) = mv (ins a b) (insb t b false) (ins i b) ∧ insb t b false ≠ ins a b ∧ insb t b false ≠ ins a b + 1 ∨ ((insb t b false = ins a b ∨ insb t b false = ins a b + 1) ∧ ins (mv a t i) (mg a t b true) = ins i b) := by
  obtain ⟨p, hp⟩ : ∃ p, p = ins a b := ⟨_, rfl⟩
  obtain ⟨q, hq⟩ : ∃ q, q = insb t b false := ⟨_, rfl⟩
  rw [← hp, ← hq]
  unfold ins at hp; unfold insb at hq
  simp only [Bool.false_eq_true, and_false, or_false] at hq
  rcases (by omega : t < a ∨ a + 1 < t) with h1 | h1
  · rw [mvL p q _ (by omega), mvL a t i h1, mgL a t b true h1]
    simp only [if_true]
    unfold ins
    split at hp <;> split at hq <;> (try (exfalso; omega)) <;> omega
  · rw [mvR a t i h1, mgR a t b true h1]
    simp only [if_true]
    rcases (by omega : p + 1 < q ∨ q = p ∨ q = p + 1) with h2 | h2
    · rw [mvR p q _ h2]
      unfold ins
      split at hp <;> split at hq <;> (try (exfalso; omega)) <;> omega
    · exfalso; omega
theorem s23 (a b s i : Int) (h : s ≠ b ∧ s ≠ b + 1) (hi : i ≠ a) (hb : a ≠ b) :
    (if less s a = less b a ∨ less s a = less b a + 1 then less i a else mv (less b a) (less s a) (less i a)) = less (mv b s i) (mv b s a) ∧ mv b s i ≠ mv b s a := by
  obtain ⟨p, hp⟩ : ∃ p, p = less b a := ⟨_, rfl⟩
  obtain ⟨q, hq⟩ : ∃ q, q = less s a := ⟨_, rfl⟩
  rw [← hp, ← hq]
  unfold less at hp hq
  rcases (by omega : s < b ∨ b + 1 < s) with h1 | h1
  · rw [mvL b s i h1, mvL b s a h1]
    rcases (by omega : q < p ∨ q = p ∨ q = p + 1) with h2 | h2
    · rw [if_neg (by omega), mvL p q _ h2]
      unfold less
      split at hp <;> split at hq <;> (try (exfalso; omega)) <;> omega
    · rw [if_pos h2]
      unfold less
      split at hp <;> split at hq <;> (try (exfalso; omega)) <;> omega
  · rw [mvR b s i h1, mvR b s a h1]
    rcases (by omega : p + 1 < q ∨ q = p ∨ q = p + 1) with h2 | h2
    · rw [if_neg (by omega), mvR p q _ h2]
      unfold less
      split at hp <;> split at hq <;> (try (exfalso; omega)) <;> omega
    · rw [if_pos h2]
      unfold less
      split at hp <;> split at hq <;> (try (exfalso; omega)) <;> omega
theorem s23b (b s i : Int) (h : s ≠ b ∧ s ≠ b + 1) (hi : i ≠ b) : less i b = less (mv b s i) (mv b s b) ∧ mv b s i ≠ mv b s b := by
  rcases (by omega : s < b ∨ b + 1 < s) with h1 | h1
  · rw [mvL b s i h1, mvL b s b h1]; unfold less; omega
  · rw [mvR b s i h1, mvR b s b h1]; unfold less; omega
theorem go_neg (r : Int × Int × Int × Bool) (i : Int) (h : i < 0) : go r i = i := by
  unfold go; rw [if_pos (.inl h)]
set_option maxHeartbeats 4000000 in
/-- two operations made side by side send a line to one place -/
theorem sides (k a t l b s i : Int) (ha : MayP k a t) (hb : MayP l b s) (h1 : a ≤ N) (h2 : t ≤ N) (h3 : b ≤ N) (h4 : s ≤ N) (hi : 0 ≤ i) (hj : i ≤ 576460752303423488) :
    go (tr l b s k a t false) (ix k a t i) = go (tr k a t l b s true) (ix l b s i) := by
  have ra := ixv_range k a t i ha hi
  have rb := ixv_range l b s i hb hi
  rw [ix_ixv k a t i ha hi (by omega), ix_ixv l b s i hb hi (by omega)]
  have hN : N = 1099511628776 := rfl
  have hk : k = 1 ∨ k = 2 ∨ k = 3 := by unfold MayP at ha; omega
  have hl : l = 1 ∨ l = 2 ∨ l = 3 := by unfold MayP at hb; omega
  have a0 : 0 ≤ a ∧ 0 ≤ t ∧ a < 2199023255552 ∧ t < 2199023255552 := by unfold MayP at ha; omega
  have b0 : 0 ≤ b ∧ 0 ≤ s ∧ b < 2199023255552 ∧ s < 2199023255552 := by unfold MayP at hb; omega
  have u1 := tr_bound l b s k a t false hb ha h3 h2 h4 N ⟨h3, h4, h2⟩
  have u2 := tr_bound k a t l b s true ha hb h1 h4 h2 N ⟨h1, h2, h4⟩
  rcases hk with rfl | rfl | rfl <;> rcases hl with rfl | rfl | rfl
  · obtain rfl : t = 0 := by unfold MayP at ha; omega
    obtain rfl : s = 0 := by unfold MayP at hb; omega
    rw [tr_one b 1 a 0 false hb ha h3] at u1 ⊢
    rw [tr_one a 1 b 0 true ha hb h1] at u2 ⊢
    rw [go_some _ _ _ _ (u1 rfl).1 (by omega), go_some _ _ _ _ (u2 rfl).1 (by omega)]
    simp only [ixv, gpv, if_true, ins, insb, Bool.not_false, Bool.not_true, Bool.false_eq_true, and_false, or_false, and_true] at *
    omega
  · obtain rfl : t = 0 := by unfold MayP at ha; omega
    obtain rfl : s = 0 := by unfold MayP at hb; omega
    rw [tr_two b 1 a 0 false hb ha h3 h2, if_neg (by omega)] at u1 ⊢
    rw [tr_one a 2 b 0 true ha hb h1] at u2 ⊢
    rw [go_some _ _ _ _ (u1 rfl).1 (by omega), go_some _ _ _ _ (u2 rfl).1 (by omega)]
    simp only [ixv, gpv, if_true, if_false, Int.reduceEq, ins, less] at *
    omega
  · obtain rfl : t = 0 := by unfold MayP at ha; omega
    have hs : s ≠ b ∧ s ≠ b + 1 := by unfold MayP at hb; omega
    have e := s13 a b s i hs
    have q1 : gpv 1 a 0 s (!false) = insb s a true := rfl
    have q2 : ixv 1 a 0 b = ins b a := rfl
    have q3 : gpv 3 b s a (!true) = mg b s a false := rfl
    rw [tr_three b s 1 a 0 false hb ha h3 h2 h4, if_neg (by rw [q1, q2]; omega)] at u1 ⊢
    rw [tr_one a 3 b s true ha hb h1] at u2 ⊢
    rw [go_some _ _ _ _ (u1 rfl).1 (by omega), go_some _ _ _ _ (u2 rfl).1 (by omega)]
    rw [if_neg (by omega), if_neg (by omega), q1, q2, q3]
    exact e.1
  · obtain rfl : t = 0 := by unfold MayP at ha; omega
    obtain rfl : s = 0 := by unfold MayP at hb; omega
    rw [tr_one b 2 a 0 false hb ha h3] at u1 ⊢
    rw [tr_two a 1 b 0 true ha hb h1 h4, if_neg (by omega)] at u2 ⊢
    rw [go_some _ _ _ _ (u1 rfl).1 (by omega), go_some _ _ _ _ (u2 rfl).1 (by omega)]
    simp only [ixv, gpv, if_true, if_false, Int.reduceEq, ins, less] at *
    omega
  · obtain rfl : t = 0 := by unfold MayP at ha; omega
    obtain rfl : s = 0 := by unfold MayP at hb; omega
    rw [tr_two b 2 a 0 false hb ha h3 h2] at u1 ⊢
    rw [tr_two a 2 b 0 true ha hb h1 h4] at u2 ⊢
    by_cases c : a = b
    · rw [if_pos ⟨rfl, c.symm⟩, if_pos ⟨rfl, c⟩, go_none, go_none, c]
    · rw [if_neg (by omega)] at u1 ⊢
      rw [if_neg (by omega)] at u2 ⊢
      rw [go_some _ _ _ _ (u1 rfl).1 (by omega), go_some _ _ _ _ (u2 rfl).1 (by omega)]
      simp only [ixv, if_true, if_false, Int.reduceEq, less] at *
      omega
  · obtain rfl : t = 0 := by unfold MayP at ha; omega
    have hs : s ≠ b ∧ s ≠ b + 1 := by unfold MayP at hb; omega
    have q0 : ixv 3 b s a = mv b s a := rfl
    have q4 : ixv 3 b s i = mv b s i := rfl
    have q6 : ixv 2 a 0 i = if i = a then -1 else less i a := rfl
    have q7 : ixv 2 (mv b s a) 0 (mv b s i) = if mv b s i = mv b s a then -1 else less (mv b s i) (mv b s a) := rfl
    have hm := mv_range b s i hs hi (by omega) (by omega)
    rw [tr_two a 3 b s true ha hb h1 h4, if_neg (by omega)] at u2 ⊢
    rw [go_some _ _ _ _ (u2 rfl).1 (by omega), q0, q4, q7, if_neg (by omega), q6]
    by_cases ci : i = a
    · subst ci
      rw [if_pos rfl, if_pos rfl, go_neg _ _ (by omega)]
    · rw [if_neg ci]
      have hz : 0 ≤ less i a := by unfold less; omega
      have hz2 : less i a ≤ i := by unfold less; omega
      by_cases c : b = a
      · subst c
        have e := s23b b s i hs ci
        rw [tr_three b s 2 b 0 false hb ha h3 h2 h4, if_pos (.inr (.inl ⟨rfl, rfl⟩)), go_none, if_neg e.2]
        exact e.1
      · have e := s23 a b s i hs ci (by omega)
        have q1 : gpv 2 a 0 s (!false) = less s a := rfl
        have q2 : ixv 2 a 0 b = less b a := by show (if b = a then -1 else less b a) = _; rw [if_neg c]
        rw [if_neg e.2, ← e.1]
        by_cases d : less s a = less b a ∨ less s a = less b a + 1
        · rw [tr_three b s 2 a 0 false hb ha h3 h2 h4, if_pos (by rw [q1, q2]; exact .inr (.inr d)), go_none, if_pos d]
        · rw [tr_three b s 2 a 0 false hb ha h3 h2 h4, if_neg (by rw [q1, q2]; omega)] at u1 ⊢
          rw [go_some _ _ _ _ (u1 rfl).1 (by omega), if_neg (by omega), if_neg d, q1, q2]
          rfl
  · obtain rfl : s = 0 := by unfold MayP at hb; omega
    have ht : t ≠ a ∧ t ≠ a + 1 := by unfold MayP at ha; omega
    have e := s31 a t b i ht
    have q1 : gpv 1 b 0 t (!true) = insb t b false := rfl
    have q2 : ixv 1 b 0 a = ins a b := rfl
    have q3 : gpv 3 a t b (!false) = mg a t b true := rfl
    have q5 : ixv 1 b 0 i = ins i b := rfl
    have hm := mv_range a t i ht hi (by omega) (by omega)
    have hz : 0 ≤ ins i b := by unfold ins; omega
    have hz2 : ins i b ≤ i + 1 := by unfold ins; omega
    have q6 : ixv 3 a t i = mv a t i := rfl
    rw [tr_one b 3 a t false hb ha h3] at u1 ⊢
    rw [go_some _ _ _ _ (u1 rfl).1 (by omega), q6, if_neg (by omega), q3, q5]
    show ins (mv a t i) (mg a t b true) = _
    by_cases d : insb t b false = ins a b ∨ insb t b false = ins a b + 1
    · rw [tr_three a t 1 b 0 true ha hb h1 h4 h2, if_pos (by rw [q1, q2]; exact .inr (.inr d)), go_none]
      omega
    · rw [tr_three a t 1 b 0 true ha hb h1 h4 h2, if_neg (by rw [q1, q2]; omega)] at u2 ⊢
      rw [go_some _ _ _ _ (u2 rfl).1 (by omega), if_neg (by omega), q1, q2]
      show _ = mv (ins a b) (insb t b false) (ins i b)
      omega
  · obtain rfl : s = 0 := by unfold MayP at hb; omega
    have hs : t ≠ a ∧ t ≠ a + 1 := by unfold MayP at ha; omega
    have q0 : ixv 3 a t b = mv a t b := rfl
    have q4 : ixv 3 a t i = mv a t i := rfl
    have q6 : ixv 2 b 0 i = if i = b then -1 else less i b := rfl
    have q7 : ixv 2 (mv a t b) 0 (mv a t i) = if mv a t i = mv a t b then -1 else less (mv a t i) (mv a t b) := rfl
    have hm := mv_range a t i hs hi (by omega) (by omega)
    rw [tr_two b 3 a t false hb ha h3 h2, if_neg (by omega)] at u1 ⊢
    rw [go_some _ _ _ _ (u1 rfl).1 (by omega), q0, q4, q7, if_neg (by omega), q6]
    by_cases ci : i = b
    · subst ci
      rw [if_pos rfl, if_pos rfl, go_neg _ _ (by omega)]
    · rw [if_neg ci]
      have hz : 0 ≤ less i b := by unfold less; omega
      have hz2 : less i b ≤ i := by unfold less; omega
      by_cases c : a = b
      · subst c
        have e := s23b a t i hs ci
        rw [if_neg e.2, tr_three a t 2 a 0 true ha hb h1 h4 h2, if_pos (.inr (.inl ⟨rfl, rfl⟩)), go_none]
        exact e.1.symm
      · have e := s23 b a t i hs ci (by omega)
        have q1 : gpv 2 b 0 t (!true) = less t b := rfl
        have q2 : ixv 2 b 0 a = less a b := by show (if a = b then -1 else less a b) = _; rw [if_neg c]
        rw [if_neg e.2, ← e.1]
        by_cases d : less t b = less a b ∨ less t b = less a b + 1
        · rw [if_pos d, tr_three a t 2 b 0 true ha hb h1 h4 h2, if_pos (by rw [q1, q2]; exact .inr (.inr d)), go_none]
        · rw [if_neg d]
          rw [tr_three a t 2 b 0 true ha hb h1 h4 h2, if_neg (by rw [q1, q2]; omega)] at u2 ⊢
          rw [go_some _ _ _ _ (u2 rfl).1 (by omega), if_neg (by omega), q1, q2]
          rfl
  · have ht : t ≠ a ∧ t ≠ a + 1 := by unfold MayP at ha; omega
    have hs : s ≠ b ∧ s ≠ b + 1 := by unfold MayP at hb; omega
    have q1 : gpv 3 a t s (!false) = mg a t s true := rfl
    have q2 : ixv 3 a t b = mv a t b := rfl
    have q3 : gpv 3 b s t (!true) = mg b s t false := rfl
    have q4 : ixv 3 b s a = mv b s a := rfl
    have q5 : ixv 3 a t i = mv a t i := rfl
    have q6 : ixv 3 b s i = mv b s i := rfl
    have hm := mv_range a t i ht hi (by omega) (by omega)
    have hm2 := mv_range b s i hs hi (by omega) (by omega)
    rw [tr_three b s 3 a t false hb ha h3 h2 h4, q1, q2] at u1 ⊢
    rw [tr_three a t 3 b s true ha hb h1 h4 h2, q3, q4] at u2 ⊢
    rw [q5, q6]
    by_cases c : a = b
    · subst c
      have e := tp_same a t s i ht hs
      have g2 : go (if ((3 : Int) = 3 ∧ a = a ∧ true = true) ∨ ((3 : Int) = 2 ∧ a = a) ∨ mg a s t false = mv a s a ∨ mg a s t false = mv a s a + 1 then (0, 0, 0, false) else (3, mv a s a, mg a s t false, true)) (mv a s i) = mv a s i := by rw [if_pos (.inl ⟨rfl, rfl, rfl⟩), go_none]
      rw [g2]
      by_cases d : mg a t s true = mv a t a ∨ mg a t s true = mv a t a + 1
      · rw [if_pos (.inr (.inr d)), go_none]
        rw [if_neg (by omega)] at e; exact e
      · rw [if_neg (by simp; omega)] at u1 ⊢
        rw [go_some _ _ _ _ (u1 rfl).1 (by omega), if_neg (by omega)]
        rw [if_pos (by omega)] at e; exact e
    · have e := tp_mm a t b s i ht hs c
      have g1 : go (if ((3 : Int) = 3 ∧ b = a ∧ false = true) ∨ ((3 : Int) = 2 ∧ b = a) ∨ mg a t s true = mv a t b ∨ mg a t s true = mv a t b + 1 then (0, 0, 0, false) else (3, mv a t b, mg a t s true, true)) (mv a t i) = (if mg a t s true ≠ mv a t b ∧ mg a t s true ≠ mv a t b + 1 then mv (mv a t b) (mg a t s true) (mv a t i) else mv a t i) := by
        by_cases d : mg a t s true = mv a t b ∨ mg a t s true = mv a t b + 1
        · rw [if_pos (.inr (.inr d)), go_none, if_neg (by omega)]
        · rw [if_neg (by simp; omega)] at u1
          rw [if_neg (by simp; omega)]
          rw [go_some _ _ _ _ (u1 rfl).1 (by omega), if_neg (by omega), if_pos (by omega)]
          rfl
      have g2 : go (if ((3 : Int) = 3 ∧ a = b ∧ true = true) ∨ ((3 : Int) = 2 ∧ a = b) ∨ mg b s t false = mv b s a ∨ mg b s t false = mv b s a + 1 then (0, 0, 0, false) else (3, mv b s a, mg b s t false, true)) (mv b s i) = (if mg b s t false ≠ mv b s a ∧ mg b s t false ≠ mv b s a + 1 then mv (mv b s a) (mg b s t false) (mv b s i) else mv b s i) := by
        by_cases d : mg b s t false = mv b s a ∨ mg b s t false = mv b s a + 1
        · rw [if_pos (.inr (.inr d)), go_none, if_neg (by omega)]
        · rw [if_neg (by simp; omega)] at u2
          rw [if_neg (by simp; omega)]
          rw [go_some _ _ _ _ (u2 rfl).1 (by omega), if_neg (by omega), if_pos (by omega)]
          rfl
      rw [g1, g2]; exact e
/-- the new line of an operation, where it goes behind another one -/
theorem madeA (l b s a : Int) (ha : MayP 1 a 0) (hb : MayP l b s) (h1 : a ≤ N) (h3 : b ≤ N) (h4 : s ≤ N) : go (tr l b s 1 a 0 false) a = gpv l b s a false := by
  have hN : N = 1099511628776 := rfl
  have hl : l = 1 ∨ l = 2 ∨ l = 3 := by unfold MayP at hb; omega
  have a0 : 0 ≤ a := by unfold MayP at ha; omega
  have b0 : 0 ≤ b ∧ 0 ≤ s := by unfold MayP at hb; omega
  have u1 := tr_bound l b s 1 a 0 false hb ha h3 (by omega) h4 N ⟨h3, h4, by omega⟩
  rcases hl with rfl | rfl | rfl
  · obtain rfl : s = 0 := by unfold MayP at hb; omega
    rw [tr_one b 1 a 0 false hb ha h3] at u1 ⊢
    rw [go_some _ _ _ _ (u1 rfl).1 (by omega), if_neg (by omega)]
    simp only [ixv, gpv, if_true, ins, insb, Bool.not_false, and_true, Bool.false_eq_true, and_false, or_false]
    omega
  · obtain rfl : s = 0 := by unfold MayP at hb; omega
    rw [tr_two b 1 a 0 false hb ha h3 (by omega), if_neg (by omega)] at u1 ⊢
    rw [go_some _ _ _ _ (u1 rfl).1 (by omega), if_neg (by omega)]
    simp only [ixv, gpv, if_true, if_false, Int.reduceEq, ins, less]
    omega
  · have hs : s ≠ b ∧ s ≠ b + 1 := by unfold MayP at hb; omega
    have q1 : gpv 1 a 0 s (!false) = insb s a true := rfl
    have q2 : ixv 1 a 0 b = ins b a := rfl
    have e : insb s a true ≠ ins b a ∧ insb s a true ≠ ins b a + 1 := (s13 a b s 0 hs).2
    rw [tr_three b s 1 a 0 false hb ha h3 (by omega) h4, if_neg (by rw [q1, q2]; omega)] at u1 ⊢
    rw [go_some _ _ _ _ (u1 rfl).1 (by omega), if_neg (by omega), q1, q2]
    show mv (ins b a) (insb s a true) a = mg b s a false
    clear u1 q1 q2
    obtain ⟨p, hp⟩ : ∃ p, p = ins b a := ⟨_, rfl⟩
    obtain ⟨q, hq⟩ : ∃ q, q = insb s a true := ⟨_, rfl⟩
    rw [← hp, ← hq] at e ⊢
    unfold ins at hp; unfold insb at hq
    simp only [and_true] at hq
    rcases (by omega : s < b ∨ b + 1 < s) with h5 | h5
    · rw [mgL b s a false h5, mvL p q _ (by omega)]
      simp only [Bool.false_eq_true, if_false]
      split at hp <;> split at hq <;> (try (exfalso; omega)) <;> omega
    · rw [mgR b s a false h5, mvR p q _ (by omega)]
      simp only [Bool.false_eq_true, if_false]
      split at hp <;> split at hq <;> (try (exfalso; omega)) <;> omega
theorem madeB (k a t b : Int) (ha : MayP k a t) (hb : MayP 1 b 0) (h1 : a ≤ N) (h2 : t ≤ N) (h3 : b ≤ N) : go (tr k a t 1 b 0 true) b = gpv k a t b true := by
  have hN : N = 1099511628776 := rfl
  have hk : k = 1 ∨ k = 2 ∨ k = 3 := by unfold MayP at ha; omega
  have a0 : 0 ≤ a ∧ 0 ≤ t := by unfold MayP at ha; omega
  have b0 : 0 ≤ b := by unfold MayP at hb; omega
  have u1 := tr_bound k a t 1 b 0 true ha hb h1 (by omega) h2 N ⟨h1, h2, by omega⟩
  rcases hk with rfl | rfl | rfl
  · obtain rfl : t = 0 := by unfold MayP at ha; omega
    rw [tr_one a 1 b 0 true ha hb h1] at u1 ⊢
    rw [go_some _ _ _ _ (u1 rfl).1 (by omega), if_neg (by omega)]
    simp only [ixv, gpv, if_true, ins, insb, Bool.not_true, and_true, Bool.false_eq_true, and_false, or_false]
    omega
  · obtain rfl : t = 0 := by unfold MayP at ha; omega
    rw [tr_two a 1 b 0 true ha hb h1 (by omega), if_neg (by omega)] at u1 ⊢
    rw [go_some _ _ _ _ (u1 rfl).1 (by omega), if_neg (by omega)]
    simp only [ixv, gpv, if_true, if_false, Int.reduceEq, ins, less]
    omega
  · have ht : t ≠ a ∧ t ≠ a + 1 := by unfold MayP at ha; omega
    have q1 : gpv 1 b 0 t (!true) = insb t b false := rfl
    have q2 : ixv 1 b 0 a = ins a b := rfl
    have q3 : gpv 3 a t b true = mg a t b true := rfl
    rw [q3]
    by_cases d : insb t b false = ins a b ∨ insb t b false = ins a b + 1
    · rw [tr_three a t 1 b 0 true ha hb h1 (by omega) h2, if_pos (by rw [q1, q2]; exact .inr (.inr d)), go_none]
      clear u1 q1 q2 q3
      unfold ins insb at d
      simp only [Bool.false_eq_true, and_false, or_false] at d
      rcases (by omega : t < a ∨ a + 1 < t) with h5 | h5
      · rw [mgL a t b true h5]
        simp only [if_true]
        omega
      · rw [mgR a t b true h5]
        simp only [if_true]
        omega
    · rw [tr_three a t 1 b 0 true ha hb h1 (by omega) h2, if_neg (by rw [q1, q2]; omega)] at u1 ⊢
      rw [go_some _ _ _ _ (u1 rfl).1 (by omega), if_neg (by omega), q1, q2]
      show mv (ins a b) (insb t b false) b = mg a t b true
      clear u1 q1 q2 q3
      obtain ⟨p, hp⟩ : ∃ p, p = ins a b := ⟨_, rfl⟩
      obtain ⟨q, hq⟩ : ∃ q, q = insb t b false := ⟨_, rfl⟩
      rw [← hp, ← hq] at d ⊢
      unfold ins at hp; unfold insb at hq
      simp only [Bool.false_eq_true, and_false, or_false] at hq
      rcases (by omega : t < a ∨ a + 1 < t) with h5 | h5
      · rw [mgL a t b true h5, mvL p q _ (by omega)]
        simp only [if_true]
        split at hp <;> split at hq <;> (try (exfalso; omega)) <;> omega
      · rw [mgR a t b true h5]
        simp only [if_true]
        rcases (by omega : p + 1 < q ∨ q < p) with h2 | h2
        · rw [mvR p q _ h2]
          split at hp <;> split at hq <;> (try (exfalso; omega)) <;> omega
        · exfalso; omega
/-- lines that stay go to places that are apart, and come back from there -/
theorem apart (k a t i j : Int) (hm : MayP k a t) (h0 : 0 ≤ i) (h1 : 0 ≤ j) (h2 : i ≤ 576460752303423488) (h3 : j ≤ 576460752303423488) :
    (i ≠ j → 0 ≤ ix k a t i → ix k a t i ≠ ix k a t j) ∧ (0 ≤ ix k a t i → bk k a t (ix k a t i) = i) ∧ (0 ≤ bk k a t i → ix k a t (bk k a t i) = i) ∧
    (0 ≤ ix k a t i ↔ (k ≠ 2 ∨ i ≠ a)) ∧ (0 ≤ bk k a t i ↔ (k ≠ 1 ∨ i ≠ a)) := by
  have hk : k = 1 ∨ k = 2 ∨ k = 3 := by unfold MayP at hm; omega
  have a0 : 0 ≤ a ∧ 0 ≤ t ∧ a < 2199023255552 ∧ t < 2199023255552 := by unfold MayP at hm; omega
  have B : ∀ x, 0 ≤ x → x ≤ 1152921504606846976 → bk k a t x = bkv k a t x := fun x h h' => by unfold bk; rw [if_pos ⟨h, h', hm⟩]
  have I : ∀ x, 0 ≤ x → x ≤ 1152921504606846976 → ix k a t x = ixv k a t x := fun x h h' => by unfold ix; rw [if_pos ⟨h, h', hm⟩]
  rw [I i h0 (by omega), I j h1 (by omega), B i h0 (by omega)]
  rcases hk with rfl | rfl | rfl
  · have e1 : ixv 1 a t i = ins i a := rfl
    have e2 : bkv 1 a t i = if i = a then -1 else less i a := rfl
    have e3 : ixv 1 a t j = ins j a := rfl
    have r : 0 ≤ ins i a ∧ ins i a ≤ i + 1 := by unfold ins; omega
    rw [e1, e2, e3]
    refine ⟨by unfold ins; omega, ?_, ?_, by omega, by unfold less; omega⟩
    · intro _
      rw [B _ r.1 (by omega)]
      show (if ins i a = a then -1 else less (ins i a) a) = i
      unfold ins less; omega
    · intro h
      rw [I _ h (by unfold less; omega)]
      show ins _ a = i
      revert h
      unfold ins less; omega
  · have e1 : ixv 2 a t i = if i = a then -1 else less i a := rfl
    have e2 : bkv 2 a t i = ins i a := by
      show (if i = 1152921504606846976 ∧ i ≥ a then -1 else ins i a) = ins i a
      rw [if_neg (by omega)]
    have e3 : ixv 2 a t j = if j = a then -1 else less j a := rfl
    have r : 0 ≤ ins i a ∧ ins i a ≤ i + 1 := by unfold ins; omega
    rw [e1, e2, e3]
    refine ⟨by unfold less; omega, ?_, ?_, by unfold less; omega, by omega⟩
    · intro h
      rw [B _ h (by unfold less; omega)]
      show (if _ = 1152921504606846976 ∧ _ ≥ a then -1 else ins _ a) = i
      revert h
      unfold ins less; omega
    · intro _
      rw [I _ r.1 (by omega)]
      show (if ins i a = a then -1 else less (ins i a) a) = i
      unfold ins less; omega
  · have ht : t ≠ a ∧ t ≠ a + 1 := by unfold MayP at hm; omega
    have e1 : ixv 3 a t i = mv a t i := rfl
    have e2 : bkv 3 a t i = if i = less t a then a else ins (less i (less t a)) a := rfl
    have e3 : ixv 3 a t j = mv a t j := rfl
    have r := mv_range a t i ht h0 a0.1 a0.2.1
    have r2 : 0 ≤ bkv 3 a t i ∧ bkv 3 a t i ≤ 1152921504606846976 := by rw [e2]; unfold ins less; omega
    have f1 : bkv 3 a t (mv a t i) = i := by
      show (if mv a t i = less t a then a else ins (less (mv a t i) (less t a)) a) = i
      rcases (by omega : t < a ∨ a + 1 < t) with h | h
      · rw [mvL a t i h]; unfold ins less; omega
      · rw [mvR a t i h]; unfold ins less; omega
    have f2 : mv a t (bkv 3 a t i) = i := by
      rw [e2]
      rcases (by omega : t < a ∨ a + 1 < t) with h | h
      · rw [mvL a t _ h]; unfold ins less; omega
      · rw [mvR a t _ h]; unfold ins less; omega
    have f3 : i ≠ j → mv a t i ≠ mv a t j := by
      rcases (by omega : t < a ∨ a + 1 < t) with h | h
      · rw [mvL a t i h, mvL a t j h]; omega
      · rw [mvR a t i h, mvR a t j h]; omega
    rw [e1, e3]
    refine ⟨fun h _ => f3 h, fun _ => ?_, fun _ => ?_, by omega, by omega⟩
    · rw [B _ r.1 (by omega)]; exact f1
    · rw [I _ r2.1 r2.2]; exact f2
/-- a line that is inserted and taken away; a line that moves and moves back -/
theorem ins_del (a i : Int) (ha : 0 ≤ a ∧ a ≤ 1099511627776) (hi : 0 ≤ i ∧ i ≤ 1099511627776) : ix 2 a 0 (ix 1 a 0 i) = i := by
  have m1 : MayP 1 a 0 := by unfold MayP; omega
  have m2 : MayP 2 a 0 := by unfold MayP; omega
  rw [ix_ixv 1 a 0 i m1 hi.1 (by omega)]
  have e1 : ixv 1 a 0 i = ins i a := rfl
  have r : 0 ≤ ins i a ∧ ins i a ≤ i + 1 := by unfold ins; omega
  rw [e1, ix_ixv 2 a 0 _ m2 r.1 (by omega)]
  show (if ins i a = a then -1 else less (ins i a) a) = i
  unfold ins less; omega
theorem move_place (a t : Int) (ha : 0 ≤ a ∧ a ≤ 1099511627776) (ht : 0 ≤ t ∧ t ≤ 1099511627776) (h : t ≠ a ∧ t ≠ a + 1) : ix 3 a t a = less t a := by
  have m : MayP 3 a t := by unfold MayP; omega
  rw [ix_ixv 3 a t a m ha.1 (by omega)]
  show mv a t a = _
  unfold mv; rw [if_pos rfl]
theorem move_back (a t i : Int) (ha : 0 ≤ a ∧ a ≤ 1099511627776) (ht : 0 ≤ t ∧ t ≤ 1099511627776) (h : t ≠ a ∧ t ≠ a + 1) (hi : 0 ≤ i ∧ i ≤ 1099511627776) :
    ix 3 (less t a) (if a > less t a then a + 1 else a) (ix 3 a t i) = i := by
  have m : MayP 3 a t := by unfold MayP; omega
  rw [ix_ixv 3 a t i m hi.1 (by omega)]
  have r := mv_range a t i h hi.1 ha.1 ht.1
  have e1 : ixv 3 a t i = mv a t i := rfl
  have m2 : MayP 3 (less t a) (if a > less t a then a + 1 else a) := by unfold MayP less; omega
  rw [e1, ix_ixv _ _ _ _ m2 r.1 (by omega)]
  show mv (less t a) (if a > less t a then a + 1 else a) (mv a t i) = i
  rcases (by omega : t < a ∨ a + 1 < t) with g | g
  · have z : less t a = t := by unfold less; omega
    rw [z, if_pos (by omega), mvR _ _ _ (by omega), mvL a t i g]; omega
  · have z : less t a = t - 1 := by unfold less; omega
    rw [z, if_neg (by omega), mvL _ _ _ (by omega), mvR a t i g]; omega
end Go.Proofs.Ytopdjbmmcfjpcaa.LinePlain
