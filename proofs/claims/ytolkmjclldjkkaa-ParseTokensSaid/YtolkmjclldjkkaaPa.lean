/-
  Parse: plain facts: what a match is, which tokens a text becomes.
-/
import Derived.Test.YtolkmjclldjkkaaMb
set_option linter.unusedSimpArgs false
set_option linter.unusedVariables false
namespace Go.Proofs.Ytolkmjclldjkkaa
open Go.RowKit

/-- what stands at a place, all ahead of which are put -/
def lookL (L : List Nat) (D N : Nat) (a over : Nat) : Nat × Nat := findL L (upto a) (a : Int) (D : Int) (N : Int) (over : Int)
/-- a byte's token: literal, length, distance -/
def litT (L : List Nat) (a : Nat) : Nat × Nat × Nat := (L.getD a 0, 0, 0)
/-- the tokens from a place on, up to one match, and the place behind them -/
def oneL (L : List Nat) (D N Z : Nat) : Nat → Nat → Nat × Nat → List (Nat × Nat × Nat) × Nat
  | 0, a, _ => ([], a)
  | f + 1, a, m => if m.1 = 0 then ([litT L a], a + 1)
    else if m.1 < Z ∧ a + 1 < L.length then
      if 0 < (lookL L D N (a + 1) m.1).1 then (litT L a :: (oneL L D N Z f (a + 1) (lookL L D N (a + 1) m.1)).1, (oneL L D N Z f (a + 1) (lookL L D N (a + 1) m.1)).2)
      else ([(0, m.1, m.2)], a + m.1)
    else ([(0, m.1, m.2)], a + m.1)
def parseL (L : List Nat) (D N Z : Nat) : Nat → Nat → List (Nat × Nat × Nat)
  | 0, _ => []
  | f + 1, a => if a < L.length then (oneL L D N Z (L.length - a) a (lookL L D N a 2)).1 ++ parseL L D N Z f (oneL L D N Z (L.length - a) a (lookL L D N a 2)).2 else []
/-- a level's row: depth, nice, lazy -/
def rowL (k : Nat) : Nat × Nat × Nat := [(0, 0, 0), (4, 8, 0), (8, 16, 0), (16, 32, 0), (8, 16, 4), (16, 32, 16), (64, 128, 16), (128, 128, 32), (512, 258, 128), (2048, 258, 258)].getD k (0, 0, 0)
def litsL (L : List Nat) (n k : Nat) : List (Nat × Nat × Nat) := (List.range k).map fun i => litT L (n + i)
theorem litsL_succ (L : List Nat) (n k : Nat) : litsL L n (k + 1) = litsL L n k ++ [litT L (n + k)] := by simp [litsL, List.range_succ]
/-- the tokens of the bytes from place n on, by a level -/
def toksL (L : List Nat) (n k : Nat) : List (Nat × Nat × Nat) :=
  if k = 0 then litsL L n (L.length - n) else parseL L (rowL k).1 (rowL k).2.1 (rowL k).2.2 (L.length - n) n

/-- a match at a place, longer than 'over' -/
structure MatchAt (L : List Nat) (a over : Nat) (m : Nat × Nat) : Prop where
  pos : over < m.1
  three : 3 ≤ m.1
  top : m.1 ≤ 258
  near : 1 ≤ m.2
  far : m.2 ≤ 32768
  back : m.2 ≤ a
  fits : a + m.1 ≤ L.length
  same : ∀ i, i < m.1 → L.getD (a - m.2 + i) 0 = L.getD (a + i) 0
theorem eachGo_some (L : List Nat) (a : Nat) (nice over : Int) : ∀ (cs : List Nat) (m : Nat × Nat), 
    eachGo (findStep L (a : Int) nice over) cs m = m ∨ ∃ p ∈ cs, eachGo (findStep L (a : Int) nice over) cs m = (longL L p a, a - p) ∧ over < (longL L p a : Int) := by
  intro cs
  induction cs with
  | nil => intro m; exact .inl rfl
  | cons p r ih =>
    intro m
    have hs : (findStep L (a : Int) nice over m p).1 = m ∨ ((findStep L (a : Int) nice over m p).1 = (longL L p a, a - p) ∧ over < (longL L p a : Int)) := by
      unfold findStep
      rw [Int.toNat_natCast]
      simp only []
      split
      · rename_i h; exact .inr ⟨rfl, h.1⟩
      · exact .inl rfl
    rw [eachGo]
    split
    · rcases ih (findStep L (a : Int) nice over m p).1 with h | ⟨q, hq, h⟩
      · rw [h]
        rcases hs with h2 | ⟨h2, h3⟩
        · exact .inl h2
        · exact .inr ⟨p, List.mem_cons_self, h2, h3⟩
      · exact .inr ⟨q, List.mem_cons_of_mem _ hq, h⟩
    · rcases hs with h2 | ⟨h2, h3⟩
      · exact .inl h2
      · exact .inr ⟨p, List.mem_cons_self, h2, h3⟩
theorem look_match (L : List Nat) (D N a over : Nat) : lookL L D N a over = (0, 0) ∨ MatchAt L a over (lookL L D N a over) := by
  rcases eachGo_some L a (N : Int) (over : Int) (placesL L (upto a) (a : Int) (D : Int)) (0, 0) with h | ⟨p, hp, h, ho⟩
  · exact .inl h
  · right
    have hl := place_long hp
    rw [Int.toNat_natCast] at hl
    obtain ⟨_, k, _, _, hm, hd⟩ := place_mem hp
    have hlt := upto_lt hm
    have h1 := long_le L p a
    have h2 := long_same L p a (longL L p a - 1) (by omega)
    unfold lookL findL
    rw [h]
    exact ⟨by simp only []; omega, hl, h1, by simp only []; omega, by simp only []; omega, by simp only []; omega, by simp only []; omega, fun i hi => by
      have := (long_same L p a i hi).2
      simp only []
      rw [show a - (a - p) = p by omega]
      exact this⟩
/-- no candidate is longer, if it is gone on to the greatest length -/
theorem eachGo_max (L : List Nat) (a : Nat) (over : Int) : ∀ (cs : List Nat) (m : Nat × Nat),
    m.1 ≤ (eachGo (findStep L (a : Int) 258 over) cs m).1 ∧ ∀ q ∈ cs, longL L q a ≤ (eachGo (findStep L (a : Int) 258 over) cs m).1 ∨ (longL L q a : Int) ≤ over ∨ (258 : Int) ≤ over := by
  intro cs
  induction cs with
  | nil => intro m; exact ⟨Nat.le_refl _, fun q hq => by cases hq⟩
  | cons p r ih =>
    intro m
    have hs : m.1 ≤ (findStep L (a : Int) 258 over m p).1.1 ∧ (longL L p a ≤ (findStep L (a : Int) 258 over m p).1.1 ∨ (longL L p a : Int) ≤ over) := by
      unfold findStep
      rw [Int.toNat_natCast]
      simp only []
      split
      · rename_i h; exact ⟨Nat.le_of_lt h.2, .inl (Nat.le_refl _)⟩
      · rename_i h; exact ⟨Nat.le_refl _, by omega⟩
    have h2 : (findStep L (a : Int) 258 over m p).2 = decide ((longL L p a : Int) < 258) := by unfold findStep; rw [Int.toNat_natCast]
    rw [eachGo, h2]
    split
    · obtain ⟨h3, h4⟩ := ih (findStep L (a : Int) 258 over m p).1
      refine ⟨by omega, fun q hq => ?_⟩
      rcases List.mem_cons.1 hq with rfl | hq
      · rcases hs.2 with h5 | h5
        · exact .inl (by omega)
        · exact .inr (.inl h5)
      · exact h4 q hq
    · rename_i h3
      have h4 : ¬ ((longL L p a : Int) < 258) := by simpa using h3
      refine ⟨hs.1, fun q hq => ?_⟩
      have h5 := long_le L q a
      rcases hs.2 with h6 | h6
      · exact .inl (by omega)
      · exact .inr (.inr (by omega))
theorem look_max (L : List Nat) (D a over : Nat) {q : Nat} (hq : q ∈ placesL L (upto a) (a : Int) (D : Int)) : longL L q a ≤ (lookL L D 258 a over).1 ∨ longL L q a ≤ over := by
  have h1 := long_le L q a
  rcases (eachGo_max L a (over : Int) (placesL L (upto a) (a : Int) (D : Int)) (0, 0)).2 q hq with h | h | h
  · exact .inl h
  · exact .inr (by omega)
  · exact .inr (by omega)
/-- the tokens lie ahead -/
theorem one_end (L : List Nat) (D N Z : Nat) : ∀ f a m, a < L.length → L.length ≤ a + f → (m = (0, 0) ∨ ∃ o, MatchAt L a o m) → a < (oneL L D N Z f a m).2 ∧ (oneL L D N Z f a m).2 ≤ L.length := by
  intro f
  induction f with
  | zero => intro a m ha hf; omega
  | succ f ih =>
    intro a m ha hf hm
    rw [oneL]
    split
    · exact ⟨by simp only []; omega, by simp only []; omega⟩
    · rename_i h0
      have hmm : ∃ o, MatchAt L a o m := by
        rcases hm with rfl | h
        · exact absurd rfl h0
        · exact h
      obtain ⟨o, hM⟩ := hmm
      have := hM.fits
      have := hM.three
      split
      · split
        · rename_i h1 h2
          have := ih (a + 1) (lookL L D N (a + 1) m.1) h1.2 (by omega) (by
            rcases look_match L D N (a + 1) m.1 with h | h
            · exact .inl h
            · exact .inr ⟨_, h⟩)
          exact ⟨by simp only []; omega, this.2⟩
        · exact ⟨by simp only []; omega, by simp only []; omega⟩
      · exact ⟨by simp only []; omega, by simp only []; omega⟩
theorem look_or (L : List Nat) (D N a over : Nat) : lookL L D N a over = (0, 0) ∨ ∃ o, MatchAt L a o (lookL L D N a over) := by
  rcases look_match L D N a over with h | h
  · exact .inl h
  · exact .inr ⟨_, h⟩
theorem toks_one (L : List Nat) (D N Z a : Nat) (h : a < L.length) : a < (oneL L D N Z (L.length - a) a (lookL L D N a 2)).2 ∧ (oneL L D N Z (L.length - a) a (lookL L D N a 2)).2 ≤ L.length :=
  one_end L D N Z _ a _ h (by omega) (look_or L D N a 2)
theorem one_count (L : List Nat) (D N Z : Nat) : ∀ f a m, a < L.length → L.length ≤ a + f → (m = (0, 0) ∨ ∃ o, MatchAt L a o m) → a + (oneL L D N Z f a m).1.length ≤ (oneL L D N Z f a m).2 := by
  intro f
  induction f with
  | zero => intro a m ha hf; omega
  | succ f ih =>
    intro a m ha hf hm
    rw [oneL]
    split
    · simp only [List.length_cons, List.length_nil]; omega
    · rename_i h0
      have hmm : ∃ o, MatchAt L a o m := by
        rcases hm with rfl | h
        · exact absurd rfl h0
        · exact h
      obtain ⟨o, hM⟩ := hmm
      have := hM.three
      split
      · split
        · rename_i h1 h2
          have := ih (a + 1) (lookL L D N (a + 1) m.1) h1.2 (by omega) (look_or _ _ _ _ _)
          simp only [List.length_cons]; omega
        · simp only [List.length_cons, List.length_nil]; omega
      · simp only [List.length_cons, List.length_nil]; omega
theorem parse_count (L : List Nat) (D N Z : Nat) : ∀ f a, (parseL L D N Z f a).length ≤ L.length - a := by
  intro f
  induction f with
  | zero => intro a; simp [parseL]
  | succ f ih =>
    intro a
    rw [parseL]
    split
    · rename_i h
      have h1 := toks_one L D N Z a h
      have h2 := one_count L D N Z (L.length - a) a _ h (by omega) (look_or L D N a 2)
      have h3 := ih (oneL L D N Z (L.length - a) a (lookL L D N a 2)).2
      rw [List.length_append]; omega
    · simp
theorem toks_count (L : List Nat) (n k : Nat) : (toksL L n k).length ≤ L.length - n := by
  unfold toksL
  split
  · simp [litsL]
  · exact parse_count _ _ _ _ _ _
end Go.Proofs.Ytolkmjclldjkkaa
