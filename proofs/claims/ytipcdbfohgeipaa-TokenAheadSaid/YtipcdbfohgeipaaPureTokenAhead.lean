/-
  Token: what stands ahead of a dictionary makes no difference to tokens that are a text behind it (TokenAhead), as plain mathematics.
-/
import Derived.Test.YtipcdbfohgeipaaPCx8
import Derived.Test.YtipcdbfohgeipaaMath
set_option linter.unusedVariables false
set_option linter.unusedSimpArgs false
namespace Go.Proofs.Ytipcdbfohgeipaa.Pure
open Go.RowKit Go.Proofs.Ytipcdbfohgeipaa.PC Go.Proofs.YtipcdbfohgeipaaW.PrintWords Go.Proofs.YtipcdbfohgeipaaW.PrintLast

theorem copy_ahead (A L : List Nat) (d : Nat) (h1 : 1 ≤ d) (h2 : d ≤ L.length) : ∀ n, copyT d (A ++ L) n = A ++ copyT d L n := by
  intro n
  induction n with
  | zero => rfl
  | succ n ih =>
    simp only [copyT]
    rw [ih]
    have hl := copyT_length d L n
    rw [List.append_assoc]
    congr 2
    rw [List.getD_eq_getElem?_getD, List.getD_eq_getElem?_getD, List.getElem?_append_right (by rw [List.length_append]; omega), List.length_append]
    congr 3
    omega
theorem step_ahead (A L : List Nat) (k : Nat) (t : Tk) : ((stepT k L t).1 = 0 → stepT (A.length + k) (A ++ L) t = (0, A ++ (stepT k L t).2)) ∧ ((stepT k L t).1 ≠ 0 → (stepT k L t).1 = 7 ∨ (stepT (A.length + k) (A ++ L) t).1 = (stepT k L t).1) := by
  unfold stepT
  by_cases h1 : mayI t.a t.n t.d = false
  · rw [if_pos h1, if_pos h1]; simp
  · rw [if_neg h1, if_neg h1]
    by_cases h2 : t.d > (L.length : Int)
    · rw [if_pos h2]; simp
    · have h2' : ¬ t.d > ((A ++ L).length : Int) := by rw [List.length_append]; omega
      have e3 : ((A ++ L).length : Int) - ((A.length + k : Nat) : Int) = L.length - k := by rw [List.length_append]; omega
      rw [if_neg h2, if_neg h2', e3]
      by_cases h3 : (L.length : Int) - k + max t.n 1 > 1048576
      · rw [if_pos h3, if_pos h3]; simp
      · rw [if_neg h3, if_neg h3]
        refine ⟨fun _ => ?_, fun h => absurd rfl h⟩
        by_cases h4 : t.n = 0
        · rw [if_pos h4, if_pos h4, List.append_assoc]
        · rw [if_neg h4, if_neg h4]
          have hm := may_match (by simpa using h1) h4
          rw [copy_ahead A L t.d.toNat (by omega) (by omega)]
theorem go_ahead (A : List Nat) (k : Nat) : ∀ (l : List Tk) (L : List Nat), ((textGo k l L).1 = 0 → textGo (A.length + k) l (A ++ L) = (0, A ++ (textGo k l L).2)) ∧ ((textGo k l L).1 ≠ 0 → (textGo k l L).1 = 7 ∨ (textGo (A.length + k) l (A ++ L)).1 = (textGo k l L).1) := by
  intro l
  induction l with
  | nil => intro L; simp [textGo]
  | cons t r ih =>
    intro L
    obtain ⟨s1, s2⟩ := step_ahead A L k t
    simp only [textGo]
    by_cases h : (stepT k L t).1 = 0
    · rw [if_pos h, s1 h]
      exact ih _
    · rw [if_neg h]
      refine ⟨fun h' => absurd h' h, fun _ => ?_⟩
      rcases s2 h with h7 | h7
      · exact .inl h7
      · right
        rw [if_neg (by rw [h7]; exact h)]
        exact h7
theorem TokenAhead (a0 a1 : ByteArray) (l2 : List S24) (hf : PC.fit l2 = true) (hs : a0.size + a1.size ≤ 9223372036854775807) : platenlaw09_TokenAhead.f a0 a1 l2 = some true := by
  unfold platenlaw09_TokenAhead.f
  rw [if_pos hs]
  obtain ⟨b, hb⟩ : ∃ b, platenlaw09_heavy.f (a0 ++ a1) l2 = some b := by
    unfold platenlaw09_heavy.f
    split
    · exact ⟨_, rfl⟩
    · exact ⟨_, rfl⟩
  rw [hb, Option.bind_some, works_true]
  cases b with
  | true => rfl
  | false =>
    have hh : (a0 ++ a1).size ≤ 8192 ∧ l2.length ≤ 1000 := by
      unfold platenlaw09_heavy.f at hb
      split at hb
      · cases hb
      · simp at hb; omega
    have e1 : (a0 ++ a1).size = a0.size + a1.size := ByteArray.size_append
    have f1 : token_Text.f a1 l2 = some (textB a1 (l2.map tk)) := by
      unfold token_Text.f
      rw [if_pos ⟨by omega, by omega, hf⟩]
    have f2 : token_Text.f (a0 ++ a1) l2 = some (textB (a0 ++ a1) (l2.map tk)) := by
      unfold token_Text.f
      rw [if_pos ⟨by omega, by omega, hf⟩]
    have hl : (byteL a0).length = a0.size := byteL_length a0
    obtain ⟨g1, g2⟩ := go_ahead (byteL a0) a1.size (l2.map tk) (byteL a1)
    rw [hl, ← byteL_append, ← e1] at g1 g2
    rw [f1, f2, if_neg (by simp), Option.bind_some, Option.bind_some]
    by_cases h0 : (textGo a1.size (l2.map tk) (byteL a1)).1 = 0
    · have h := g1 h0
      have t1 : textB a1 (l2.map tk) = (textOf ((textGo a1.size (l2.map tk) (byteL a1)).2.drop a1.size), 0) := by unfold textB; rw [if_pos h0, h0]
      have t2 : textB (a0 ++ a1) (l2.map tk) = (textOf ((textGo a1.size (l2.map tk) (byteL a1)).2.drop a1.size), 0) := by
        unfold textB
        rw [h, if_pos rfl]
        have : List.drop (a0 ++ a1).size (byteL a0 ++ (textGo a1.size (l2.map tk) (byteL a1)).2) = (textGo a1.size (l2.map tk) (byteL a1)).2.drop a1.size := by
          rw [e1, ← hl, List.drop_append]
          simp
        simp only [this]
      rw [t1, t2]
      simp
    · have t1 : textB a1 (l2.map tk) = (ByteArray.empty, (textGo a1.size (l2.map tk) (byteL a1)).1) := by unfold textB; rw [if_neg h0]
      rw [t1]
      simp only []
      rw [if_neg h0]
      rcases g2 h0 with h7 | h7
      · rw [if_pos h7]; simp
      · have t2 : (textB (a0 ++ a1) (l2.map tk)).2 = (textGo a1.size (l2.map tk) (byteL a1)).1 := h7
        rw [t2]
        simp
end Go.Proofs.Ytipcdbfohgeipaa.Pure
