/-
  CanonNone: plain facts: a symbol without a code makes no difference to the others' codes; no two symbols have one code.
-/
import Derived.Test.YtogpjdiammecjaaHand2
set_option linter.unusedSimpArgs false
set_option linter.unusedVariables false
namespace Go.Proofs.Ytogpjdiammecjaa
open Go.RowKit Go.Proofs.YtogpjdiammecjaaW.PrintWords

/-- a 0 put in -/
def putZ (l : List Int) (k : Nat) : List Int := l.take k ++ 0 :: l.drop k
theorem putZ_length (l : List Int) (k : Nat) : (putZ l k).length = l.length + 1 := by
  have h := congrArg List.length (List.take_append_drop k l)
  simp only [List.length_append] at h
  simp only [putZ, List.length_append, List.length_cons]
  omega
theorem putZ_count (l : List Int) (k : Nat) (x : Int) (hx : x ≠ 0) : (putZ l k).count x = l.count x := by
  have h := congrArg (List.count x) (List.take_append_drop k l)
  rw [List.count_append] at h
  unfold putZ
  rw [List.count_append, List.count_cons_of_ne (by simpa using hx.symm)]
  exact h
theorem natc {k : Nat} (h : ¬ k = 0) : (k : Int) ≠ 0 := by omega
theorem wtK_putZ (l : List Int) (k : Nat) : ∀ n, wtK (putZ l k) n = wtK l n
  | 0 => rfl
  | n + 1 => by
    simp only [wtK]
    rw [wtK_putZ l k n]
    split
    · rfl
    · rename_i h
      rw [putZ_count l k _ (natc h)]
theorem allK_putZ (l : List Int) (k : Nat) : ∀ n, allK (putZ l k) n = allK l n
  | 0 => rfl
  | n + 1 => by
    simp only [allK]
    rw [allK_putZ l k n]
    split
    · rfl
    · rename_i h
      rw [putZ_count l k _ (natc h)]
theorem startN_putZ (l : List Int) (k : Nat) : ∀ n, startN (putZ l k) n = startN l n
  | 0 => rfl
  | n + 1 => by
    simp only [startN]
    split
    · rfl
    · rename_i h
      rw [startN_putZ l k n, putZ_count l k _ (natc h)]
theorem good_putZ (l : List Int) (k : Nat) (h : good l = true) (hl : l.length ≤ 300) : good (putZ l k) = true := by
  obtain ⟨_, h2⟩ := (good_iff l).1 h
  refine (good_iff _).2 ⟨by rw [putZ_length]; omega, fun x hx => ?_⟩
  unfold putZ at hx
  rcases List.mem_append.1 hx with h3 | h3
  · exact h2 x (List.mem_of_mem_take h3)
  · rcases List.mem_cons.1 h3 with rfl | h3
    · decide
    · exact h2 x (List.mem_of_mem_drop h3)
theorem kind_putZ (l : List Int) (k : Nat) (h : good l = true) (hl : l.length ≤ 300) : kindI (putZ l k) = kindI l := by
  unfold kindI
  rw [h, good_putZ l k h hl, wtK_putZ, allK_putZ, putZ_count l k 1 (by decide)]
theorem rd_getD (l : List Int) (i : Nat) : rd l (i : Int) = l.getD i 0 := by simp [rd]
theorem rd_putZ_lt (l : List Int) {k i : Nat} (hi : i < k) (hk : k ≤ l.length) : rd (putZ l k) (i : Int) = rd l (i : Int) := by
  rw [rd_getD, rd_getD, putZ, List.getD_eq_getElem?_getD, List.getElem?_append_left (by rw [List.length_take]; omega), List.getElem?_take, if_pos hi, ← List.getD_eq_getElem?_getD]
theorem rd_putZ_eq (l : List Int) {k : Nat} (hk : k ≤ l.length) : rd (putZ l k) (k : Int) = 0 := by
  have e : (l.take k).length = k := by rw [List.length_take]; omega
  rw [rd_getD, putZ, List.getD_eq_getElem?_getD, List.getElem?_append_right (by omega), e, Nat.sub_self]
  rfl
theorem rd_putZ_gt (l : List Int) {k i : Nat} (hi : k ≤ i) (hk : k ≤ l.length) : rd (putZ l k) ((i + 1 : Nat) : Int) = rd l (i : Int) := by
  have e : (l.take k).length = k := by rw [List.length_take]; omega
  rw [rd_getD, rd_getD, putZ, List.getD_eq_getElem?_getD, List.getElem?_append_right (by omega), e, show i + 1 - k = (i - k) + 1 by omega, List.getElem?_cons_succ, List.getElem?_drop, show k + (i - k) = i by omega, ← List.getD_eq_getElem?_getD]
theorem take_putZ_le (l : List Int) {k i : Nat} (hi : i ≤ k) (hk : k ≤ l.length) : (putZ l k).take i = l.take i := by
  rw [putZ, List.take_append_of_le_length (by rw [List.length_take]; omega), List.take_take, Nat.min_eq_left hi]
theorem take_putZ_gt (l : List Int) {k i : Nat} (hi : k ≤ i) (hk : k ≤ l.length) (x : Int) (hx : x ≠ 0) : ((putZ l k).take (i + 1)).count x = (l.take i).count x := by
  have e : (l.take k).length = k := by rw [List.length_take]; omega
  have h1 : (putZ l k).take (i + 1) = l.take k ++ 0 :: (l.drop k).take (i - k) := by
    rw [putZ, List.take_append, e, List.take_of_length_le (by omega), show i + 1 - k = (i - k) + 1 by omega, List.take_succ_cons]
  have h2 : l.take i = l.take k ++ (l.drop k).take (i - k) := by
    rw [← List.take_add]
    congr 1
    omega
  rw [h1, h2, List.count_append, List.count_append, List.count_cons_of_ne (by simpa using hx.symm)]
theorem code_putZ_lt (l : List Int) {k i : Nat} (hi : i < k) (hk : k ≤ l.length) : codeAt (putZ l k) i = codeAt l i := by
  unfold codeAt
  rw [rd_putZ_lt l hi hk, startN_putZ, take_putZ_le l (Nat.le_of_lt hi) hk]
theorem code_putZ_eq (l : List Int) {k : Nat} (hk : k ≤ l.length) : codeAt (putZ l k) k = (0, 0) := by
  unfold codeAt
  rw [rd_putZ_eq l hk, if_pos rfl]
theorem code_putZ_gt (l : List Int) {k i : Nat} (hi : k ≤ i) (hk : k ≤ l.length) : codeAt (putZ l k) (i + 1) = codeAt l i := by
  unfold codeAt
  rw [rd_putZ_gt l hi hk, startN_putZ]
  split
  · rfl
  · rename_i h
    rw [take_putZ_gt l hi hk _ h]
/-- no two symbols have one code -/
theorem code_ne_lt (l : List Int) (hb : ∀ x ∈ l, 0 ≤ x) {i j : Nat} (hij : i < j) (hj : j < l.length) (h0 : rd l (i : Int) ≠ 0 ∨ rd l (j : Int) ≠ 0) : codeAt l i ≠ codeAt l j := by
  intro h
  have hi : i < l.length := by omega
  have ei : rd l (i : Int) = l[i] := by rw [rd_getD]; simp [hi]
  have ej : rd l (j : Int) = l[j] := by rw [rd_getD]; simp [hj]
  have bi := hb _ (List.getElem_mem hi)
  have bj := hb _ (List.getElem_mem hj)
  rw [← ei] at bi
  rw [← ej] at bj
  unfold codeAt at h
  by_cases h1 : rd l (i : Int) = 0
  · by_cases h2 : rd l (j : Int) = 0
    · rcases h0 with h0 | h0 <;> contradiction
    · rw [if_pos h1, if_neg h2] at h
      have := (Prod.mk.inj h).2
      omega
  · by_cases h2 : rd l (j : Int) = 0
    · rw [if_neg h1, if_pos h2] at h
      have := (Prod.mk.inj h).2
      omega
    · rw [if_neg h1, if_neg h2] at h
      obtain ⟨e1, e2⟩ := Prod.mk.inj h
      have e3 : rd l (i : Int) = rd l (j : Int) := by omega
      rw [e3] at e1
      have hc : (l.take j).count (rd l (j : Int)) ≥ (l.take (i + 1)).count (rd l (j : Int)) := by
        have hs : (l.take (i + 1)).Sublist (l.take j) := by
          have : l.take (i + 1) = (l.take j).take (i + 1) := by rw [List.take_take, Nat.min_eq_left (by omega)]
          rw [this]
          exact List.take_sublist _ _
        exact hs.count_le _
      have hd : (l.take (i + 1)).count (rd l (j : Int)) = (l.take i).count (rd l (j : Int)) + 1 := by
        rw [take_snoc_int l i hi, List.count_append, ← e3]
        simp
      omega
theorem code_ne (l : List Int) (hb : ∀ x ∈ l, 0 ≤ x) {i j : Nat} (hij : i ≠ j) (hi : i < l.length) (hj : j < l.length) (h0 : rd l (i : Int) ≠ 0) : codeAt l i ≠ codeAt l j := by
  rcases Nat.lt_or_gt_of_ne hij with h | h
  · exact code_ne_lt l hb h hj (.inl h0)
  · exact (code_ne_lt l hb h hi (.inr h0)).symm
end Go.Proofs.Ytogpjdiammecjaa
