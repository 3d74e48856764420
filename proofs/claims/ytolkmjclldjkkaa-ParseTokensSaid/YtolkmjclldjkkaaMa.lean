/-
  Chain: what a match is. Plain mathematics.
-/
import Derived.Test.YtolkmjclldjkkaaL3
set_option linter.unusedSimpArgs false
set_option linter.unusedVariables false
namespace Go.Proofs.Ytolkmjclldjkkaa

theorem longGo_spec (L : List Nat) (p a : Nat) : ∀ f n, n ≤ longGo L p a n f ∧ longGo L p a n f ≤ n + f ∧ (∀ i, n ≤ i → i < longGo L p a n f → a + i < L.length ∧ L.getD (p + i) 0 = L.getD (a + i) 0) ∧
    (longGo L p a n f < n + f → ¬ (a + longGo L p a n f < L.length ∧ L.getD (p + longGo L p a n f) 0 = L.getD (a + longGo L p a n f) 0)) := by
  intro f
  induction f with
  | zero => intro n; simp only [longGo]; exact ⟨Nat.le_refl _, Nat.le_refl _, fun i h1 h2 => by omega, fun h => by omega⟩
  | succ f ih =>
    intro n
    unfold longGo
    by_cases h : a + n < L.length ∧ L.getD (p + n) 0 = L.getD (a + n) 0
    · rw [if_pos h]
      obtain ⟨h1, h2, h3, h4⟩ := ih (n + 1)
      refine ⟨by omega, by omega, fun i hi hi2 => ?_, fun hh => h4 (by omega)⟩
      by_cases e : i = n
      · subst e; exact h
      · exact h3 i (by omega) hi2
    · rw [if_neg h]
      exact ⟨Nat.le_refl _, by omega, fun i h1 h2 => by omega, fun _ => h⟩
theorem long_le (L : List Nat) (p a : Nat) : longL L p a ≤ 258 := by have := (longGo_spec L p a 258 0).2.1; unfold longL; omega
theorem long_same (L : List Nat) (p a i : Nat) (h : i < longL L p a) : a + i < L.length ∧ L.getD (p + i) 0 = L.getD (a + i) 0 := (longGo_spec L p a 258 0).2.2.1 i (Nat.zero_le _) h
theorem long_end (L : List Nat) (p a : Nat) (h : longL L p a < 258) : ¬ (a + longL L p a < L.length ∧ L.getD (p + longL L p a) 0 = L.getD (a + longL L p a) 0) := (longGo_spec L p a 258 0).2.2.2 (by unfold longL at h; omega)
theorem three_get {L : List Nat} {p : Nat} {k : Nat × Nat × Nat} (h : threeAt L p = some k) : p + 3 ≤ L.length ∧ L.getD p 0 = k.1 ∧ L.getD (p + 1) 0 = k.2.1 ∧ L.getD (p + 2) 0 = k.2.2 := by
  unfold threeAt at h
  split at h
  · cases h; exact ⟨by assumption, rfl, rfl, rfl⟩
  · cases h
theorem long_three {L : List Nat} {p a : Nat} {k : Nat × Nat × Nat} (hp : threeAt L p = some k) (ha : threeAt L a = some k) : 3 ≤ longL L p a := by
  obtain ⟨p0, p1, p2, p3⟩ := three_get hp
  obtain ⟨a0, a1, a2, a3⟩ := three_get ha
  unfold longL
  rw [longGo_go L p a 0 257 (by omega) (by rw [Nat.add_zero, Nat.add_zero, p1, a1]), longGo_go L p a 1 256 (by omega) (by rw [p2, a2]), longGo_go L p a 2 255 (by omega) (by rw [p3, a3])]
  exact (longGo_spec L p a 255 3).1
theorem place_mem {L : List Nat} {l : List Nat} {at_ depth : Int} {p : Nat} (h : p ∈ placesL L l at_ depth) : 0 ≤ at_ ∧ ∃ k, threeAt L at_.toNat = some k ∧ threeAt L p = some k ∧ p ∈ l ∧ at_ - (p : Int) ≤ 32768 := by
  unfold placesL at h
  split at h
  · cases h
  · rename_i h0
    cases hk : threeAt L at_.toNat with
    | none => rw [hk] at h; cases h
    | some k =>
      rw [hk] at h
      have h1 := List.mem_of_mem_take h
      have h2 := (List.takeWhile_sublist _).mem h1
      have h3 := List.mem_filter.1 h2
      refine ⟨by omega, k, rfl, by simpa using h3.2, h3.1, ?_⟩
      have := List.all_eq_true.1 (List.all_takeWhile (p := fun p : Nat => decide (at_ - (p : Int) ≤ 32768)) (l := cand L k l)) p h1
      simpa using this
theorem place_long {L : List Nat} {l : List Nat} {at_ depth : Int} {p : Nat} (h : p ∈ placesL L l at_ depth) : 3 ≤ longL L p at_.toNat := by
  obtain ⟨_, k, h1, h2, _⟩ := place_mem h
  exact long_three h2 h1
/-- the first of them, with depth -/
theorem place_one {L : List Nat} {l : List Nat} {at_ depth : Int} (h : 1 ≤ depth) (hn : placesL L l at_ depth = []) : placesL L l at_ 1 = [] := by
  unfold placesL at hn ⊢
  split
  · rfl
  · rename_i h0
    rw [if_neg h0] at hn
    cases hk : threeAt L at_.toNat with
    | none => rfl
    | some k =>
      rw [hk] at hn
      simp only [] at hn ⊢
      rcases List.take_eq_nil_iff.1 hn with h1 | h1
      · omega
      · rw [h1]; rfl
theorem eachGo_match {L : List Nat} {a : Nat} {nice : Int} : ∀ (cs : List Nat) (m : Nat × Nat), (∀ p ∈ cs, 3 ≤ longL L p a) →
    m.1 ≤ (eachGo (findStep L (a : Int) nice 2) cs m).1 ∧ (eachGo (findStep L (a : Int) nice 2) cs m = m ∨ ∃ p ∈ cs, eachGo (findStep L (a : Int) nice 2) cs m = (longL L p a, a - p)) ∧
    (∀ q ∈ cs, longL L q a ≤ (eachGo (findStep L (a : Int) nice 2) cs m).1 ∨ nice ≤ ((eachGo (findStep L (a : Int) nice 2) cs m).1 : Int)) ∧ (cs ≠ [] → 3 ≤ (eachGo (findStep L (a : Int) nice 2) cs m).1) := by
  intro cs
  induction cs with
  | nil => intro m _; exact ⟨Nat.le_refl _, .inl rfl, fun q hq => (by cases hq), fun h => absurd rfl h⟩
  | cons p r ih =>
    intro m hl
    have hp := hl p (by simp)
    have hr : ∀ q ∈ r, 3 ≤ longL L q a := fun q hq => hl q (by simp [hq])
    obtain ⟨m', hm'⟩ : ∃ m', (if (2 : Int) < (longL L p a : Int) ∧ m.1 < longL L p a then (longL L p a, a - p) else m) = m' := ⟨_, rfl⟩
    have hs : findStep L (a : Int) nice 2 m p = (m', decide ((longL L p a : Int) < nice)) := by unfold findStep; rw [Int.toNat_natCast, hm']
    have hm1 : m.1 ≤ m'.1 ∧ longL L p a ≤ m'.1 ∧ (m' = m ∨ m' = (longL L p a, a - p)) := by
      rw [← hm']
      by_cases hc : (2 : Int) < (longL L p a : Int) ∧ m.1 < longL L p a
      · rw [if_pos hc]; exact ⟨Nat.le_of_lt hc.2, Nat.le_refl _, .inr rfl⟩
      · rw [if_neg hc]; exact ⟨Nat.le_refl _, by omega, .inl rfl⟩
    simp only [eachGo, hs]
    by_cases hn : (longL L p a : Int) < nice
    · rw [if_pos (by simpa using hn)]
      obtain ⟨i1, i2, i3, i4⟩ := ih m' hr
      refine ⟨by omega, ?_, fun q hq => ?_, fun _ => by omega⟩
      · rcases i2 with e | ⟨q, hq, e⟩
        · rw [e]
          rcases hm1.2.2 with e | e
          · exact .inl e
          · exact .inr ⟨p, by simp, e⟩
        · exact .inr ⟨q, by simp [hq], e⟩
      · rcases List.mem_cons.1 hq with rfl | hq
        · left; omega
        · exact i3 q hq
    · rw [if_neg (by simpa using hn)]
      refine ⟨hm1.1, ?_, fun q hq => .inr (by omega), fun _ => by omega⟩
      rcases hm1.2.2 with e | e
      · exact .inl e
      · exact .inr ⟨p, by simp, e⟩
/-- what 'Find' tells, over the length 2 -/
theorem find_match (L : List Nat) (a : Nat) (depth nice : Int) (l : List Nat) : 
    (findL L l (a : Int) depth nice 2 = (0, 0) ∧ placesL L l (a : Int) depth = []) ∨ (∃ p ∈ placesL L l (a : Int) depth, findL L l (a : Int) depth nice 2 = (longL L p a, a - p)) ∧ 3 ≤ (findL L l (a : Int) depth nice 2).1 ∧
      ∀ q ∈ placesL L l (a : Int) depth, longL L q a ≤ (findL L l (a : Int) depth nice 2).1 ∨ nice ≤ ((findL L l (a : Int) depth nice 2).1 : Int) := by
  have hl : ∀ p ∈ placesL L l (a : Int) depth, 3 ≤ longL L p a := fun p hp => by have := place_long hp; rwa [Int.toNat_natCast] at this
  obtain ⟨h1, h2, h3, h4⟩ := eachGo_match (L := L) (a := a) (nice := nice) (placesL L l (a : Int) depth) (0, 0) hl
  unfold findL
  by_cases hn : placesL L l (a : Int) depth = []
  · left; rw [hn]; exact ⟨rfl, rfl⟩
  · right
    have h5 := h4 hn
    refine ⟨?_, h5, h3⟩
    rcases h2 with e | e
    · rw [e] at h5; simp at h5
    · exact e
end Go.Proofs.Ytolkmjclldjkkaa
