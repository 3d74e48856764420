/-
  Chain: the order of candidates. Plain mathematics.
-/
import Derived.Test.YtolkmjclldjkkaaMa
set_option linter.unusedSimpArgs false
set_option linter.unusedVariables false
namespace Go.Proofs.Ytolkmjclldjkkaa

/-- the places that are put: those below k, but for those skipped, the latest first -/
def keptL (z : Nat → Bool) (n k : Nat) : List Nat := (upto k).filter fun p => !(decide (p < n) && z p)
theorem keptL_zero (z : Nat → Bool) (n : Nat) : keptL z n 0 = [] := rfl
theorem keptL_skip {z : Nat → Bool} {n k : Nat} (h : k < n) (hz : z k = true) : keptL z n (k + 1) = keptL z n k := by
  unfold keptL; rw [upto_succ, List.filter_cons, if_neg (by simp [h, hz])]
theorem keptL_put {z : Nat → Bool} {n k : Nat} (h : ¬ (k < n ∧ z k = true)) : keptL z n (k + 1) = k :: keptL z n k := by
  unfold keptL; rw [upto_succ, List.filter_cons, if_pos]
  simp only [Bool.not_eq_true', Bool.and_eq_false_iff, decide_eq_false_iff_not]
  by_cases h1 : k < n
  · right; cases hz : z k with
    | true => exact absurd ⟨h1, hz⟩ h
    | false => rfl
  · exact .inl h1
theorem keptL_mem {z : Nat → Bool} {n k p : Nat} (h : p ∈ keptL z n k) : p < k ∧ (p < n → z p = false) := by
  unfold keptL at h
  have h1 := List.mem_filter.1 h
  refine ⟨upto_lt h1.1, fun hn => ?_⟩
  have := h1.2
  simp [hn] at this
  exact this
theorem keptL_length (z : Nat → Bool) (n k : Nat) : (keptL z n k).length ≤ k := by
  have := List.length_filter_le (fun p => !(decide (p < n) && z p)) (upto k)
  rwa [upto_length] at this
theorem keptL_last (z : Nat → Bool) (n k : Nat) : lastI (keptL z n k) < (k : Int) := by
  cases h : keptL z n k with
  | nil => simp only [lastI]; omega
  | cons p r =>
    have : p ∈ keptL z n k := by rw [h]; simp
    have := (keptL_mem this).1
    simp only [lastI]; omega
theorem keptL_putI {z : Nat → Bool} {n k S : Nat} (hS : k < S) (h : ¬ (k < n ∧ z k = true)) : putI S (keptL z n k) (k : Int) = (0, keptL z n (k + 1)) := by
  have := keptL_last z n k
  unfold putI
  rw [if_neg (by omega), if_neg (by omega), keptL_put h, Int.toNat_natCast]
theorem upto_sorted : ∀ k, (upto k).Pairwise (· > ·)
  | 0 => List.Pairwise.nil
  | k + 1 => by rw [upto_succ]; exact List.pairwise_cons.2 ⟨fun p hp => upto_lt hp, upto_sorted k⟩
theorem keptL_sorted (z : Nat → Bool) (n k : Nat) : (keptL z n k).Pairwise (· > ·) := (upto_sorted k).sublist (List.filter_sublist)
theorem placesL_sub (L l : List Nat) (a d : Int) : (placesL L l a d).Sublist l := by
  unfold placesL
  split
  · exact List.nil_sublist _
  · split
    · exact List.nil_sublist _
    · exact (List.take_sublist _ _).trans ((List.takeWhile_sublist _).trans (List.filter_sublist))
theorem placesL_depth (L l : List Nat) (a d : Int) : (placesL L l a d).length ≤ d.toNat := by
  unfold placesL
  split
  · exact Nat.zero_le _
  · split
    · exact Nat.zero_le _
    · rw [List.length_take]; exact Nat.min_le_left _ _
theorem placesL_take (L l : List Nat) (a : Int) {d e : Int} (h : e ≤ d) : placesL L l a e = (placesL L l a d).take e.toNat := by
  unfold placesL
  split
  · rw [List.take_nil]
  · split
    · rw [List.take_nil]
    · rw [List.take_take, Nat.min_eq_left (by omega)]
/-- the second row is ahead in the first -/
theorem places_pre (L l : List Nat) (a : Int) {d e : Int} (h : e ≤ d) : (placesL L l a e).length ≤ (placesL L l a d).length ∧ ∀ i q, i < (placesL L l a e).length → (placesL L l a d)[i]? = some q → (placesL L l a e)[i]? = some q := by
  rw [placesL_take L l a h]
  refine ⟨by rw [List.length_take]; exact Nat.min_le_right _ _, fun i q hi hq => ?_⟩
  rw [List.length_take] at hi
  rw [List.getElem?_take_of_lt (by omega)]; exact hq
theorem places_order (L : List Nat) (z : Nat → Bool) (n k : Nat) (a d : Int) {i q : Nat} (h : (placesL L (keptL z n k) a d)[i]? = some q) :
    q < k ∧ (q < n → z q = false) ∧ ∀ i0, i0 + 1 = i → ∃ r, (placesL L (keptL z n k) a d)[i0]? = some r ∧ q < r := by
  have hs := placesL_sub L (keptL z n k) a d
  have h1 := keptL_mem (hs.mem (List.mem_of_getElem? h))
  refine ⟨h1.1, h1.2, fun i0 hi => ?_⟩
  have hp := (keptL_sorted z n k).sublist hs
  have hlt := (List.getElem?_eq_some_iff.1 h).1
  refine ⟨_, List.getElem?_eq_getElem (by omega), ?_⟩
  have := List.pairwise_iff_getElem.1 hp i0 i (by omega) hlt (by omega)
  rw [(List.getElem?_eq_some_iff.1 h).2] at this
  exact this
theorem two_go (L : List Nat) (a nice over ov2 : Int) (h0 : 0 ≤ over) (h : over ≤ ov2) : ∀ (cs : List Nat) (x y : Nat × Nat), ((y = (0, 0) ∧ (x.1 : Int) ≤ ov2) ∨ (x = y ∧ ov2 < (x.1 : Int))) →
    ((eachGo (findStep L a nice ov2) cs y = (0, 0) ∧ ((eachGo (findStep L a nice over) cs x).1 : Int) ≤ ov2) ∨ (eachGo (findStep L a nice over) cs x = eachGo (findStep L a nice ov2) cs y ∧ ov2 < ((eachGo (findStep L a nice over) cs x).1 : Int))) := by
  intro cs
  induction cs with
  | nil => intro x y hi; exact hi
  | cons p r ih =>
    intro x y hi
    obtain ⟨N, hN⟩ : ∃ N, longL L p a.toNat = N := ⟨_, rfl⟩
    have key : (((findStep L a nice ov2 y p).1 = (0, 0) ∧ ((findStep L a nice over x p).1.1 : Int) ≤ ov2) ∨ ((findStep L a nice over x p).1 = (findStep L a nice ov2 y p).1 ∧ ov2 < ((findStep L a nice over x p).1.1 : Int))) := by
      simp only [findStep, hN]
      rcases hi with ⟨rfl, hx⟩ | ⟨rfl, hx⟩
      · by_cases hn : ov2 < (N : Int)
        · rw [if_pos ⟨hn, by omega⟩, if_pos ⟨by omega, by omega⟩]; exact .inr ⟨rfl, hn⟩
        · rw [if_neg (fun h => hn h.1)]
          by_cases hc : over < (N : Int) ∧ x.1 < N
          · rw [if_pos hc]; exact .inl ⟨rfl, by simp only []; omega⟩
          · rw [if_neg hc]; exact .inl ⟨rfl, hx⟩
      · by_cases hn : x.1 < N
        · rw [if_pos ⟨by omega, hn⟩, if_pos ⟨by omega, hn⟩]; exact .inr ⟨rfl, by simp only []; omega⟩
        · rw [if_neg (fun h => hn h.2), if_neg (fun h => hn h.2)]; exact .inr ⟨rfl, hx⟩
    have e1 : (findStep L a nice over x p).2 = (findStep L a nice ov2 y p).2 := rfl
    simp only [eachGo]
    rw [e1]
    by_cases hb : (findStep L a nice ov2 y p).2 = true
    · rw [if_pos hb, if_pos hb]; exact ih _ _ key
    · rw [if_neg hb, if_neg hb]; exact key
theorem over_go (L : List Nat) (a nice over : Int) : ∀ (cs : List Nat) (x : Nat × Nat), (x = (0, 0) ∨ over < (x.1 : Int)) → (eachGo (findStep L a nice over) cs x = (0, 0) ∨ over < ((eachGo (findStep L a nice over) cs x).1 : Int)) := by
  intro cs
  induction cs with
  | nil => intro x hi; exact hi
  | cons p r ih =>
    intro x hi
    have key : ((findStep L a nice over x p).1 = (0, 0) ∨ over < ((findStep L a nice over x p).1.1 : Int)) := by
      simp only [findStep]
      by_cases hc : over < (longL L p a.toNat : Int) ∧ x.1 < longL L p a.toNat
      · rw [if_pos hc]; exact .inr hc.1
      · rw [if_neg hc]; exact hi
    simp only [eachGo]
    by_cases hb : (findStep L a nice over x p).2 = true
    · rw [if_pos hb]; exact ih _ key
    · rw [if_neg hb]; exact key
theorem find_two (L l : List Nat) (a d nice over ov2 : Int) (h0 : 0 ≤ over) (h : over ≤ ov2) : (findL L l a d nice ov2 = (0, 0) ∨ findL L l a d nice ov2 = findL L l a d nice over) ∧ (findL L l a d nice over = (0, 0) ∨ over < ((findL L l a d nice over).1 : Int)) := by
  unfold findL
  refine ⟨?_, over_go L a nice over _ (0, 0) (.inl rfl)⟩
  rcases two_go L a nice over ov2 h0 h (placesL L l a d) (0, 0) (0, 0) (.inl ⟨rfl, by simp only []; omega⟩) with ⟨h, _⟩ | ⟨h, _⟩
  · exact .inl h
  · exact .inr h.symm
end Go.Proofs.Ytolkmjclldjkkaa
