/-
  ParseBack: plain facts: the tokens of a text, one behind the other, are that text.
-/
import Derived.Test.YtolkmjclldjkkaaPa
set_option linter.unusedSimpArgs false
set_option linter.unusedVariables false
namespace Go.Proofs.Ytolkmjclldjkkaa
open Go.RowKit

/-- a token at a place, and the place behind it -/
def TokAt (L : List Nat) (a : Nat) (t : Nat × Nat × Nat) (b : Nat) : Prop :=
  (t = litT L a ∧ b = a + 1 ∧ a < L.length) ∨ (∃ o m, MatchAt L a o m ∧ t = (0, m.1, m.2) ∧ b = a + m.1)
/-- tokens from a place to another one -/
def Path (L : List Nat) : Nat → List (Nat × Nat × Nat) → Nat → Prop
  | a, [], c => a = c
  | a, t :: ts, c => ∃ b, TokAt L a t b ∧ Path L b ts c
theorem Path.app {L : List Nat} : ∀ {ts us : List (Nat × Nat × Nat)} {a b c : Nat}, Path L a ts b → Path L b us c → Path L a (ts ++ us) c
  | [], us, a, b, c, h, k => by
    have h : a = b := h
    subst h
    exact k
  | t :: ts, us, a, b, c, ⟨d, h1, h2⟩, k => ⟨d, h1, Path.app h2 k⟩
theorem one_path (L : List Nat) (D N Z : Nat) : ∀ f a m, a < L.length → L.length ≤ a + f → (m = (0, 0) ∨ ∃ o, MatchAt L a o m) → Path L a (oneL L D N Z f a m).1 (oneL L D N Z f a m).2 := by
  intro f
  induction f with
  | zero => intro a m ha hf; omega
  | succ f ih =>
    intro a m ha hf hm
    rw [oneL]
    split
    · exact ⟨a + 1, .inl ⟨rfl, rfl, ha⟩, rfl⟩
    · rename_i h0
      obtain ⟨o, hM⟩ : ∃ o, MatchAt L a o m := by
        rcases hm with rfl | h
        · exact absurd rfl h0
        · exact h
      have last : Path L a [(0, m.1, m.2)] (a + m.1) := ⟨a + m.1, .inr ⟨o, m, hM, rfl, rfl⟩, rfl⟩
      split
      · split
        · rename_i h1 h2
          exact ⟨a + 1, .inl ⟨rfl, rfl, ha⟩, ih (a + 1) _ h1.2 (by omega) (look_or _ _ _ _ _)⟩
        · exact last
      · exact last
theorem parse_path (L : List Nat) (D N Z : Nat) : ∀ f a, a ≤ L.length → L.length ≤ a + f → Path L a (parseL L D N Z f a) L.length := by
  intro f
  induction f with
  | zero => intro a h1 h2; exact (show a = L.length by omega)
  | succ f ih =>
    intro a h1 h2
    rw [parseL]
    split
    · rename_i h
      have h3 := toks_one L D N Z a h
      exact (one_path L D N Z (L.length - a) a _ h (by omega) (look_or _ _ _ _ _)).app (ih _ h3.2 (by omega))
    · exact (show a = L.length by omega)
theorem lits_path (L : List Nat) (n : Nat) : ∀ k, n + k ≤ L.length → Path L n (litsL L n k) (n + k)
  | 0, _ => rfl
  | k + 1, h => by
    rw [litsL_succ]
    exact (lits_path L n k (by omega)).app ⟨n + (k + 1), .inl ⟨rfl, by omega, by omega⟩, rfl⟩
theorem toks_path (L : List Nat) (n k : Nat) (h : n ≤ L.length) : Path L n (toksL L n k) L.length := by
  unfold toksL
  split
  · have := lits_path L n (L.length - n) (by omega)
    rwa [show n + (L.length - n) = L.length by omega] at this
  · exact parse_path _ _ _ _ _ _ h (by omega)
/-- every token of a path may be -/
def okT (t : Nat × Nat × Nat) : Prop := (t.2.1 = 0 ∧ t.2.2 = 0) ∨ (t.1 = 0 ∧ 3 ≤ t.2.1 ∧ t.2.1 ≤ 258 ∧ 1 ≤ t.2.2 ∧ t.2.2 ≤ 32768)
theorem TokAt.ok {L : List Nat} {a b : Nat} {t : Nat × Nat × Nat} (h : TokAt L a t b) : okT t := by
  rcases h with ⟨rfl, _⟩ | ⟨o, m, h, rfl, _⟩
  · exact .inl ⟨rfl, rfl⟩
  · exact .inr ⟨rfl, h.three, h.top, h.near, h.far⟩
theorem TokAt.next {L : List Nat} {a b : Nat} {t : Nat × Nat × Nat} (h : TokAt L a t b) : a < b ∧ b ≤ L.length := by
  rcases h with ⟨_, h1, h2⟩ | ⟨o, m, h, _, h1⟩
  · omega
  · have := h.fits; have := h.three; omega
theorem Path.le {L : List Nat} : ∀ {ts : List (Nat × Nat × Nat)} {a c : Nat}, Path L a ts c → a ≤ c
  | [], a, c, h => Nat.le_of_eq h
  | t :: ts, a, c, ⟨b, h1, h2⟩ => by have := h1.next; have := Path.le h2; omega
theorem Path.drop {L : List Nat} : ∀ {ts : List (Nat × Nat × Nat)} {a c i : Nat} {t : Nat × Nat × Nat}, Path L a (ts.drop i) c → ts[i]? = some t → ∃ b, TokAt L a t b ∧ Path L b (ts.drop (i + 1)) c
  | ts, a, c, i, t, h, ht => by
    obtain ⟨hi, e⟩ := List.getElem?_eq_some_iff.1 ht
    rw [List.drop_eq_getElem_cons hi, e] at h
    exact h
theorem Path.all {L : List Nat} : ∀ {ts : List (Nat × Nat × Nat)} {a c : Nat}, Path L a ts c → ∀ t ∈ ts, okT t
  | [], a, c, h => by simp
  | t :: ts, a, c, ⟨b, h1, h2⟩ => by
    intro u hu
    rcases List.mem_cons.1 hu with rfl | hu
    · exact h1.ok
    · exact h2.all u hu
theorem lits_zero {L : List Nat} {n k : Nat} : ∀ t ∈ litsL L n k, t.2.1 = 0 := by
  intro t ht
  simp only [litsL, List.mem_map] at ht
  obtain ⟨i, _, rfl⟩ := ht
  rfl
theorem take_one {L : List Nat} {a : Nat} (h : a < L.length) : L.take a ++ [L.getD a 0] = L.take (a + 1) := by
  rw [List.take_add_one, List.getD_eq_getElem?_getD, List.getElem?_eq_getElem h]
  rfl
theorem take_get {L : List Nat} {a i : Nat} (h : i < a) (ha : a ≤ L.length) : (L.take a)[i]? = some (L.getD i 0) := by
  rw [List.getElem?_take, if_pos h, List.getElem?_eq_getElem (by omega), List.getD_eq_getElem?_getD, List.getElem?_eq_getElem (by omega)]
  rfl
end Go.Proofs.Ytolkmjclldjkkaa
