/-
  Token: a text may have just so many bytes, and what is one more is refused (TokenLong), as plain mathematics.
-/
import Derived.Test.YtipcdbfohgeipaaPCx6
import Derived.Test.YtipcdbfohgeipaaMath
namespace Go.Proofs.Ytipcdbfohgeipaa.Pure
open Go.RowKit Go.Proofs.Ytipcdbfohgeipaa.PC Go.Proofs.YtipcdbfohgeipaaW.PrintWords Go.Proofs.YtipcdbfohgeipaaW.PrintLast
/-- a token that may be, at most one behind, of k bytes -/
def Good (t : Tk) : Prop := mayI t.a t.n t.d = true ∧ t.d ≤ 1
theorem good_size {t : Tk} (h : Good t) : sizeI t = max t.n 1 ∧ 1 ≤ sizeI t ∧ sizeI t ≤ 258 ∧ (t.n = 0 ∨ 3 ≤ t.n) := by
  have h1 := h.1
  have h2 : t.n = 0 ∨ (3 ≤ t.n ∧ t.n ≤ 258) := by
    by_cases h0 : t.n = 0
    · exact .inl h0
    · obtain ⟨a, b, _⟩ := may_match h1 h0; exact .inr ⟨a, b⟩
  unfold sizeI
  rw [if_pos h1]
  split <;> omega
theorem step_good {t : Tk} (h : Good t) (L : List Nat) (hL : 1 ≤ L.length) (hm : (L.length : Int) + sizeI t ≤ 1048576) : (stepT 0 L t).1 = 0 ∧ ((stepT 0 L t).2.length : Int) = L.length + sizeI t := by
  obtain ⟨e, h1, h2, h3⟩ := good_size h
  unfold stepT
  rw [if_neg (by simp [h.1]), if_neg (by have := h.2; omega), if_neg (by rw [← e]; omega)]
  refine ⟨rfl, ?_⟩
  show ((if t.n = 0 then L ++ [t.a.toNat] else copyT t.d.toNat L t.n.toNat).length : Int) = _
  split
  · simp only [List.length_append, List.length_singleton]; omega
  · rw [copyT_length]; omega
theorem step_full {t : Tk} (h : Good t) (L : List Nat) (hL : 1 ≤ L.length) (hm : ¬ (L.length : Int) + sizeI t ≤ 1048576) : stepT 0 L t = (5, L) := by
  obtain ⟨e, h1, h2, h3⟩ := good_size h
  unfold stepT
  rw [if_neg (by simp [h.1]), if_neg (by have := h.2; omega), if_pos (by rw [← e]; omega)]
theorem go_good : ∀ (l : List Tk) (L : List Nat), (∀ t ∈ l, Good t) → 1 ≤ L.length →
    ((L.length : Int) + (l.map sizeI).sum ≤ 1048576 → (textGo 0 l L).1 = 0 ∧ ((textGo 0 l L).2.length : Int) = L.length + (l.map sizeI).sum) ∧ (¬ (L.length : Int) + (l.map sizeI).sum ≤ 1048576 → (L.length : Int) ≤ 1048576 → (textGo 0 l L).1 = 5) := by
  intro l
  induction l with
  | nil => intro L _ _; exact ⟨fun _ => by simp [textGo], fun h h2 => by simp at h; omega⟩
  | cons t r ih =>
    intro L hg hL
    have ht := hg t (by simp)
    have hr : ∀ x ∈ r, Good x := fun x hx => hg x (by simp [hx])
    have hs : 0 ≤ (r.map sizeI).sum := by
      clear ih hg
      induction r with
      | nil => simp
      | cons x r ih =>
        have := (good_size (hr x (by simp))).2.1
        have := ih (fun y hy => hr y (by simp [hy]))
        simp only [List.map_cons, List.sum_cons]; omega
    simp only [List.map_cons, List.sum_cons, textGo]
    by_cases hm : (L.length : Int) + sizeI t ≤ 1048576
    · obtain ⟨a, b⟩ := step_good ht L hL hm
      rw [if_pos a]
      have h1 := (good_size ht).2.1
      obtain ⟨i1, i2⟩ := ih (stepT 0 L t).2 hr (by omega)
      exact ⟨fun h => by obtain ⟨x, y⟩ := i1 (by omega); exact ⟨x, by omega⟩, fun h h2 => i2 (by omega) (by omega)⟩
    · rw [step_full ht L hL hm]
      exact ⟨fun h => by omega, fun _ _ => by simp⟩

/-- the tokens, so far -/
structure Sofar (x3 : Int) (l : List S24) (x5 : Int) : Prop where
  good : ∀ t ∈ l.map tk, Good t
  fit : fit l = true
  head : ∃ r, l = ⟨97, 0, 0⟩ :: r
  sum : ((l.map tk).map sizeI).sum + x5 = x3
  len : l.length ≤ 10000
theorem Sofar.snoc {x3 x5 : Int} {l : List S24} (h : Sofar x3 l x5) (x : S24) (hg : Good (tk x)) (hf : 0 ≤ x.f0 ∧ x.f0 < 256) (y : Int) (hy : sizeI (tk x) + y = x5) (hl : l.length < 10000) : Sofar x3 (l ++ [x]) y := by
  obtain ⟨r, hr⟩ := h.head
  refine ⟨?_, ?_, ⟨r ++ [x], by rw [hr]; rfl⟩, ?_, by simp; omega⟩
  · intro t ht
    rw [List.map_append, List.mem_append] at ht
    rcases ht with ht | ht
    · exact h.good t ht
    · simp at ht; subst ht; exact hg
  · have := h.fit
    unfold PC.fit at this ⊢
    rw [List.all_append, this]
    simp [hf]
  · have := h.sum
    simp only [List.map_append, List.sum_append, List.map_cons, List.map_nil, List.sum_cons, List.sum_nil]
    omega
theorem last (x0 x3 : Int) (l : List S24) (h : Sofar x3 l 0) (h3 : x3 = 1048576 + x0) (hx : -128 ≤ x0 ∧ x0 ≤ 127) : 
    ((token_Text.f (⟨#[]⟩ : ByteArray) l).bind fun bt126 => (if x0 > 0 then (if bt126.1.toList = ([] : List UInt8) then (if bt126.2 = 5 then ((platenlaw09_works.f).bind fun t128 => (some t128)) else (some false)) else (some false)) else (if (bt126.1.size : Int) = x3 then (if bt126.2 = 0 then ((token_Size.f l).bind fun t129 => (if t129 = x3 then ((platenlaw09_works.f).bind fun t130 => (some t130)) else (some false))) else (some false)) else (some false)))) = some true := by
  obtain ⟨r, hr⟩ := h.head
  have hg : ∀ t ∈ r.map tk, Good t := fun t ht => h.good t (by rw [hr]; simp at ht ⊢; exact .inr ht)
  have hsum : 1 + ((r.map tk).map sizeI).sum = x3 := by
    have := h.sum
    rw [hr] at this
    simp only [List.map_cons, List.sum_cons] at this
    have e : sizeI (tk ⟨97, 0, 0⟩) = 1 := by rfl
    omega
  have hT : token_Text.f (⟨#[]⟩ : ByteArray) l = some (textB ⟨#[]⟩ (l.map tk)) := by
    unfold token_Text.f
    rw [if_pos ⟨by decide, by have := h.len; omega, h.fit⟩]
  have hgo : textGo 0 (l.map tk) [] = textGo 0 (r.map tk) [97] := by rw [hr]; rfl
  obtain ⟨g1, g2⟩ := go_good (r.map tk) [97] hg (by simp)
  have hB : textB ⟨#[]⟩ (l.map tk) = (if (textGo 0 (r.map tk) [97]).1 = 0 then textOf ((textGo 0 (r.map tk) [97]).2) else ByteArray.empty, (textGo 0 (r.map tk) [97]).1) := by
    rw [← hgo]; rfl
  rw [hT, hB]
  simp only [Option.bind_some, works_true]
  by_cases h0 : x0 > 0
  · have := g2 (by simp only [List.length_singleton]; omega) (by decide)
    rw [if_pos h0, this]
    simp
  · obtain ⟨a, b⟩ := g1 (by simp only [List.length_singleton]; omega)
    have hS : token_Size.f l = some x3 := by
      unfold token_Size.f
      rw [if_pos (by have := h.len; omega)]
      rw [wsum_eq 258 (by omega) _ (fun x hx => by
        obtain ⟨t, ht, rfl⟩ := List.mem_map.1 hx
        have := good_size (h.good t ht)
        omega) (by rw [List.length_map, List.length_map]; have := h.len; omega)]
      have := h.sum
      simp at this ⊢
      exact this
    rw [if_neg h0, hS, a, if_pos rfl, if_pos (by rw [textOf_size]; simp only [List.length_singleton] at b; omega), if_pos rfl]
    simp
theorem loop (x0 x3 : Int) (h3 : x3 = 1048576 + x0) (hx : -128 ≤ x0 ∧ x0 ≤ 127) : ∀ (n : Nat) (l : List S24) (x5 : Int), 0 ≤ x5 → x5 < n → x5 ≤ 1048703 → (l.length : Int) + x5 / 258 + min x5 3 ≤ 5000 → Sofar x3 l x5 → ∃ k, platenlaw09_TokenLong.l0 k x0 x3 l x5 = some true := by
  intro n
  induction n with
  | zero => intro l x5 h0 h1; omega
  | succ n ih =>
    intro l x5 h0 h1 hb hl hs
    by_cases hp : x5 > 0
    · by_cases h : (mn x5 258) < 3
      · have hm : mn x5 258 = x5 := by unfold mn at h ⊢; split <;> simp_all <;> omega
        have hw : wrap64 (x5 - 1) = x5 - 1 := by unfold wrap64; omega
        obtain ⟨k, hk⟩ := ih (l ++ [⟨98, 0, 0⟩]) (x5 - 1) (by omega) (by omega) (by omega) (by rw [List.length_append, List.length_singleton]; omega) (hs.snoc ⟨98, 0, 0⟩ ⟨rfl, by decide⟩ (by decide) _ (by show (1 : Int) + _ = _; omega) (by omega))
        refine ⟨k + 1, ?_⟩
        unfold platenlaw09_TokenLong.l0
        rw [if_pos hp, if_pos h, if_pos (by omega), hw]
        exact hk
      · obtain ⟨m, hm⟩ : ∃ m, mn x5 258 = m := ⟨_, rfl⟩
        have hm2 : m = min x5 258 := by rw [← hm]; unfold mn; split <;> omega
        rw [hm] at h
        have hw : wrap64 (x5 - m) = x5 - m := by unfold wrap64; omega
        have hmay : mayI 0 m 1 = true := by
          unfold mayI
          rw [if_neg (by omega)]
          simp
          omega
        have hsz : sizeI ⟨0, m, 1⟩ = m := by
          have := (good_size (t := ⟨0, m, 1⟩) ⟨hmay, Int.le_refl 1⟩).1
          rw [this]; show max m 1 = m; omega
        obtain ⟨k, hk⟩ := ih (l ++ [⟨0, m, 1⟩]) (x5 - m) (by omega) (by omega) (by omega) (by rw [List.length_append, List.length_singleton]; omega) (hs.snoc ⟨0, m, 1⟩ ⟨hmay, Int.le_refl 1⟩ ⟨Int.le_refl 0, by show (0 : Int) < 256; omega⟩ _ (by show sizeI ⟨0, m, 1⟩ + _ = _; rw [hsz]; omega) (by omega))
        refine ⟨k + 1, ?_⟩
        unfold platenlaw09_TokenLong.l0
        rw [if_pos hp, hm, if_neg h, if_pos (by omega), hw]
        exact hk
    · obtain rfl : x5 = 0 := by omega
      refine ⟨1, ?_⟩
      unfold platenlaw09_TokenLong.l0
      rw [if_neg hp]
      exact last x0 x3 l hs h3 hx
theorem TokenLong : platenlaw09_TokenLong.Pure := by
  intro a0 h
  have hx : -128 ≤ a0 ∧ a0 ≤ 127 := by
    have e := h
    simp only [Lit.wf, Bool.and_eq_true, decide_eq_true_eq] at e
    exact e
  have w1 : wrap64 a0 = a0 := by unfold wrap64; omega
  have w2 : wrap64 (1048576 + a0) = 1048576 + a0 := by unfold wrap64; omega
  have w3 : wrap64 (1048576 + a0 - 1) = 1048576 + a0 - 1 := by unfold wrap64; omega
  obtain ⟨k, hk⟩ := loop a0 (1048576 + a0) rfl hx 1048704 [⟨97, 0, 0⟩] (1048576 + a0 - 1) (by omega) (by omega) (by omega) (by simp only [List.length_singleton]; omega)
    ⟨by intro t ht; simp at ht; subst ht; exact ⟨rfl, by decide⟩, by decide, ⟨[], rfl⟩, by
      have e : sizeI (tk ⟨97, 0, 0⟩) = 1 := by rfl
      simp only [List.map_cons, List.map_nil, List.sum_cons, List.sum_nil, e]; omega, by decide⟩
  refine ⟨k, ?_⟩
  unfold platenlaw09_TokenLong.f
  rw [w1, w2, w3]
  exact hk
end Go.Proofs.Ytipcdbfohgeipaa.Pure
