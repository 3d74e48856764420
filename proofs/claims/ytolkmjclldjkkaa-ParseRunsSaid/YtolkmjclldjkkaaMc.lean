/-
  ParseRuns: plain facts: what is the same few bytes, again and again, becomes few tokens.
-/
import Derived.Test.YtolkmjclldjkkaaPa
set_option linter.unusedSimpArgs false
set_option linter.unusedVariables false
namespace Go.Proofs.Ytolkmjclldjkkaa
open Go.RowKit

theorem upto_split (x : Nat) : ∀ n, ∃ A : List Nat, A.length = n ∧ (∀ y ∈ A, x < y) ∧ upto (x + 1 + n) = A ++ x :: upto x
  | 0 => ⟨[], rfl, by simp, upto_succ x⟩
  | n + 1 => by
    obtain ⟨A, h1, h2, h3⟩ := upto_split x n
    refine ⟨(x + 1 + n) :: A, by simp [h1], fun y hy => ?_, ?_⟩
    · rcases List.mem_cons.1 hy with rfl | hy
      · omega
      · exact h2 y hy
    · rw [show x + 1 + (n + 1) = (x + 1 + n) + 1 by omega, upto_succ, h3]; rfl
/-- the place one turn ahead is a candidate -/
theorem run_place {L : List Nat} {p a D : Nat} (hp : 1 ≤ p ∧ p ≤ 100) (hD : 100 ≤ D) (hper : ∀ i, i + p < L.length → L.getD i 0 = L.getD (i + p) 0) (ha : p ≤ a) (h3 : a + 3 ≤ L.length) : a - p ∈ placesL L (upto a) (a : Int) (D : Int) := by
  obtain ⟨x, rfl⟩ : ∃ x, a = x + p := ⟨a - p, by omega⟩
  rw [Nat.add_sub_cancel]
  obtain ⟨A, hA1, hA2, hA3⟩ := upto_split x (p - 1)
  rw [show x + 1 + (p - 1) = x + p by omega] at hA3
  have e0 := hper x (by omega)
  have e1 := hper (x + 1) (by omega)
  have e2 := hper (x + 2) (by omega)
  rw [show x + 1 + p = x + p + 1 by omega] at e1
  rw [show x + 2 + p = x + p + 2 by omega] at e2
  have hk : threeAt L (x + p) = some (L.getD (x + p) 0, L.getD (x + p + 1) 0, L.getD (x + p + 2) 0) := by unfold threeAt; rw [if_pos h3]
  have hx : threeAt L x = some (L.getD (x + p) 0, L.getD (x + p + 1) 0, L.getD (x + p + 2) 0) := by
    unfold threeAt
    rw [if_pos (by omega), e0, e1, e2]
  unfold placesL
  rw [if_neg (by omega), Int.toNat_natCast, hk]
  simp only []
  unfold cand
  rw [hA3, List.filter_append, List.filter_cons, if_pos (by rw [hx]; simp)]
  rw [List.takeWhile_append_of_pos (fun y hy => by
    have h := hA2 y (List.mem_filter.1 hy).1
    simp only [decide_eq_true_eq]
    omega), List.takeWhile_cons, if_pos (by simp only [decide_eq_true_eq]; omega)]
  rw [Int.toNat_natCast]
  have hl : (A.filter fun q => threeAt L q == some (L.getD (x + p) 0, L.getD (x + p + 1) 0, L.getD (x + p + 2) 0)).length ≤ p - 1 := by
    have := List.length_filter_le (fun q => threeAt L q == some (L.getD (x + p) 0, L.getD (x + p + 1) 0, L.getD (x + p + 2) 0)) A
    omega
  refine List.mem_of_getElem? (i := (A.filter fun q => threeAt L q == some (L.getD (x + p) 0, L.getD (x + p + 1) 0, L.getD (x + p + 2) 0)).length) ?_
  rw [List.getElem?_take_of_lt (by omega), List.getElem?_append_right (Nat.le_refl _), Nat.sub_self]
  rfl
theorem run_long {L : List Nat} {p a : Nat} (hp : 1 ≤ p) (hper : ∀ i, i + p < L.length → L.getD i 0 = L.getD (i + p) 0) (ha : p ≤ a) (h : a < L.length) : longL L (a - p) a = min 258 (L.length - a) := by
  have h1 := long_le L (a - p) a
  have h2 : longL L (a - p) a < 258 → L.length ≤ a + longL L (a - p) a := fun hl => by
    have h3 := long_end L (a - p) a hl
    rcases Nat.lt_or_ge (a + longL L (a - p) a) L.length with h4 | h4
    · exact absurd ⟨h4, by
        rw [hper (a - p + longL L (a - p) a) (by omega)]
        congr 1
        omega⟩ h3
    · exact h4
  have h3 : longL L (a - p) a ≤ L.length - a := by
    by_cases h0 : longL L (a - p) a = 0
    · omega
    · have := (long_same L (a - p) a (longL L (a - p) a - 1) (by omega)).1
      omega
  omega
/-- what stands at a place, of a text that is one piece again and again -/
def goodM (L : List Nat) (p a : Nat) (m : Nat × Nat) : Prop := (m = (0, 0) ∧ (p ≤ a → L.length < a + 3)) ∨ (∃ o, MatchAt L a o m) ∧ (p ≤ a → m.1 = min 258 (L.length - a))
theorem good_of {L : List Nat} {p a D over : Nat} (hp : 1 ≤ p ∧ p ≤ 100) (hD : 100 ≤ D) (hper : ∀ i, i + p < L.length → L.getD i 0 = L.getD (i + p) 0) (ha : a < L.length) (ho : over = 2 ∨ 0 < (lookL L D 258 a over).1) : goodM L p a (lookL L D 258 a over) := by
  rcases look_match L D 258 a over with h | h
  · left
    rw [h] at ho
    refine ⟨h, fun hpa => ?_⟩
    rcases Nat.lt_or_ge L.length (a + 3) with h3 | h3
    · exact h3
    · have h4 := look_max L D a over (run_place hp hD hper hpa h3)
      rw [h, run_long hp.1 hper hpa ha] at h4
      simp only [] at h4 ho
      omega
  · right
    refine ⟨⟨_, h⟩, fun hpa => ?_⟩
    have h1 := h.fits
    have h2 := h.three
    have h3 := h.top
    have h5 := h.pos
    have h4 := look_max L D a over (run_place hp hD hper hpa (by omega))
    rw [run_long hp.1 hper hpa ha] at h4
    omega
/-- how many tokens at most, from a place on -/
def runB (n p a : Nat) : Nat := if a < p then (p - a) + (n - p) / 258 + 2 else (n - a) / 258 + min ((n - a) % 258) 2
theorem runB_step {n p a : Nat} (h : a < p) (hn : p ≤ n) {b : Nat} (hb : a < b) (hbn : b ≤ n) : 1 + runB n p b ≤ runB n p a := by
  unfold runB
  rw [if_pos h]
  split
  · omega
  · have : (n - b) / 258 ≤ (n - p) / 258 := Nat.div_le_div_right (by omega)
    omega
theorem runB_lit {n p a : Nat} (h : ¬ a < p) (h3 : n < a + 3) (ha : a < n) : 1 + runB n p (a + 1) ≤ runB n p a := by
  unfold runB
  rw [if_neg h, if_neg (by omega)]
  have : n - a = 1 ∨ n - a = 2 := by omega
  rcases this with e | e
  · rw [show n - (a + 1) = 0 by omega, e]; decide
  · rw [show n - (a + 1) = 1 by omega, e]; decide
theorem runB_match {n p a : Nat} (h : ¬ a < p) (h3 : 3 ≤ min 258 (n - a)) : 1 + runB n p (a + min 258 (n - a)) ≤ runB n p a := by
  unfold runB
  rw [if_neg h, if_neg (by omega)]
  rcases Nat.lt_or_ge (n - a) 258 with hl | hl
  · rw [Nat.min_eq_right (Nat.le_of_lt hl), show n - (a + (n - a)) = 0 by omega, Nat.mod_eq_of_lt hl, Nat.div_eq_of_lt hl]
    omega
  · rw [Nat.min_eq_left hl]
    obtain ⟨c, hc⟩ : ∃ c, n - a = c + 258 := ⟨n - a - 258, by omega⟩
    rw [show n - (a + 258) = c by omega, hc]
    omega
theorem one_runs {L : List Nat} {p D Z : Nat} (hp : 1 ≤ p ∧ p ≤ 100) (hD : 100 ≤ D) (hper : ∀ i, i + p < L.length → L.getD i 0 = L.getD (i + p) 0) (hn : p ≤ L.length) : ∀ f a m, a < L.length → L.length ≤ a + f → goodM L p a m →
    (oneL L D 258 Z f a m).1.length + runB L.length p (oneL L D 258 Z f a m).2 ≤ runB L.length p a := by
  intro f
  induction f with
  | zero => intro a m ha hf; omega
  | succ f ih =>
    intro a m ha hf hm
    rw [oneL]
    split
    · rename_i h0
      simp only [List.length_singleton]
      rcases hm with ⟨_, h⟩ | ⟨⟨o, h⟩, _⟩
      · by_cases hap : a < p
        · exact runB_step hap hn (Nat.lt_succ_self a) ha
        · exact runB_lit hap (h (by omega)) ha
      · have := h.three; omega
    · rename_i h0
      obtain ⟨⟨o, hM⟩, hmin⟩ : (∃ o, MatchAt L a o m) ∧ (p ≤ a → m.1 = min 258 (L.length - a)) := by
        rcases hm with ⟨h, _⟩ | h
        · exact absurd (by rw [h]) h0
        · exact h
      have h3 := hM.three
      have hfit := hM.fits
      have last : 1 + runB L.length p (a + m.1) ≤ runB L.length p a := by
        by_cases hap : a < p
        · exact runB_step hap hn (by omega) hfit
        · have e := hmin (by omega)
          rw [e] at h3 ⊢
          exact runB_match hap h3
      split
      · rename_i h1
        split
        · rename_i h2
          have hg := good_of hp hD hper h1.2 (.inr h2)
          have h4 := ih (a + 1) (lookL L D 258 (a + 1) m.1) h1.2 (by omega) hg
          have hap : a < p := by
            rcases Nat.lt_or_ge a p with h | h
            · exact h
            · rcases look_match L D 258 (a + 1) m.1 with h5 | h5
              · rw [h5] at h2; omega
              · have e1 := hmin h
                have e2 := h5.pos
                have e3 := h5.fits
                have e4 := h5.top
                omega
          have h5 := runB_step hap hn (Nat.lt_succ_self a) ha
          simp only [List.length_cons]
          have h6 : a.succ = a + 1 := rfl
          rw [h6] at h5
          omega
        · simpa using last
      · simpa using last
theorem parse_runs {L : List Nat} {p D Z : Nat} (hp : 1 ≤ p ∧ p ≤ 100) (hD : 100 ≤ D) (hper : ∀ i, i + p < L.length → L.getD i 0 = L.getD (i + p) 0) (hn : p ≤ L.length) : ∀ f a, (parseL L D 258 Z f a).length ≤ runB L.length p a := by
  intro f
  induction f with
  | zero => intro a; exact Nat.zero_le _
  | succ f ih =>
    intro a
    rw [parseL]
    split
    · rename_i h
      have h1 := one_runs (Z := Z) hp hD hper hn (L.length - a) a (lookL L D 258 a 2) h (by omega) (good_of hp hD hper h (.inl rfl))
      have h2 := ih (oneL L D 258 Z (L.length - a) a (lookL L D 258 a 2)).2
      rw [List.length_append]; omega
    · exact Nat.zero_le _
/-- a piece, so many times -/
def repL (P : List Nat) (q : Nat) : List Nat := (List.replicate q P).flatten
theorem repL_succ (P : List Nat) (q : Nat) : repL P (q + 1) = repL P q ++ P := by
  unfold repL; rw [List.replicate_succ', List.flatten_append]; simp
theorem repL_succ' (P : List Nat) (q : Nat) : repL P (q + 1) = P ++ repL P q := by
  unfold repL; rw [List.replicate_succ]; rfl
theorem repL_length (P : List Nat) (q : Nat) : (repL P q).length = q * P.length := by
  induction q with
  | zero => simp [repL]
  | succ q ih => rw [repL_succ, List.length_append, ih, Nat.add_mul, Nat.one_mul]
theorem repL_turn (P : List Nat) (q i : Nat) (h : i + P.length < (repL P q).length) : (repL P q).getD i 0 = (repL P q).getD (i + P.length) 0 := by
  cases q with
  | zero => simp [repL] at h
  | succ q =>
    have hl : i < (repL P q).length := by rw [repL_succ, List.length_append] at h; omega
    have e1 : (repL P (q + 1)).getD i 0 = (repL P q).getD i 0 := by
      rw [repL_succ, List.getD_eq_getElem?_getD, List.getElem?_append_left hl, ← List.getD_eq_getElem?_getD]
    have e2 : (repL P (q + 1)).getD (i + P.length) 0 = (repL P q).getD i 0 := by
      rw [repL_succ', List.getD_eq_getElem?_getD, List.getElem?_append_right (by omega), Nat.add_sub_cancel, ← List.getD_eq_getElem?_getD]
    rw [e1, e2]
theorem runs_count (P : List Nat) (q k : Nat) (hP : 1 ≤ P.length ∧ P.length ≤ 100) (hk : k = 8 ∨ k = 9) : (toksL (repL P q) 0 k).length ≤ P.length + 3 + (repL P q).length / 258 := by
  by_cases hq : q = 0
  · subst hq
    have h := toks_count (repL P 0) 0 k
    have e : (repL P 0).length = 0 := by simp [repL]
    omega
  · have hn : P.length ≤ (repL P q).length := by
      rw [repL_length]
      exact Nat.le_mul_of_pos_left _ (by omega)
    have key : ∀ D Z f, 100 ≤ D → (parseL (repL P q) D 258 Z f 0).length ≤ P.length + 3 + (repL P q).length / 258 := fun D Z f hD => by
      have h := parse_runs (Z := Z) hP hD (repL_turn P q) hn f 0
      have e : runB (repL P q).length P.length 0 = (P.length - 0) + ((repL P q).length - P.length) / 258 + 2 := by unfold runB; rw [if_pos (by omega)]
      have h2 : ((repL P q).length - P.length) / 258 ≤ (repL P q).length / 258 := Nat.div_le_div_right (by omega)
      omega
    unfold toksL
    rcases hk with rfl | rfl
    · rw [if_neg (by decide)]; exact key _ _ _ (by decide)
    · rw [if_neg (by decide)]; exact key _ _ _ (by decide)
end Go.Proofs.Ytolkmjclldjkkaa
