/-
  Canon: plain mathematics of weights, starts and codes; what the law's small case comes to.
-/
import Derived.Test.YtogpjdiammecjaaPCx7
import Derived.Test.YtogpjdiammecjaaHand3
set_option linter.unusedSimpArgs false
set_option linter.unusedVariables false
namespace Go.Proofs.Ytogpjdiammecjaa.Pure
open Go.RowKit Go.Proofs.Ytogpjdiammecjaa.PC Go.Proofs.YtogpjdiammecjaaW.PrintWords Go.Proofs.YtogpjdiammecjaaW.PrintLast

theorem alive_some (k : Nat) : platenlaw05_alive.f (k + 20) = some true := by kernel_rfl

theorem wf_u8 {a : Int} (h : (Lit.int .u8 a).wf = true) : 0 ≤ a ∧ a < 256 := by
  simp [Lit.wf, IntKind.min, IntKind.max, IntKind.signed, IntKind.bits] at h
  omega
theorem wf_u16 {a : Int} (h : (Lit.int .u16 a).wf = true) : 0 ≤ a ∧ a < 65536 := by
  simp [Lit.wf, IntKind.min, IntKind.max, IntKind.signed, IntKind.bits] at h
  omega
theorem okL_of {l : List Int} (h : ∀ x ∈ l, (Lit.int .u8 x).wf = true) : okL l = true := by
  simp only [okL, List.all_eq_true, decide_eq_true_eq]
  exact fun x hx => wf_u8 (h x hx)
theorem rd_eq (l : List Int) (i : Nat) (h : i < l.length) : rd l (i : Int) = l[i] := by simp [rd, h]
theorem rd_get? (l : List Int) (i : Nat) (h : i < l.length) : l[i]? = some (rd l (i : Int)) := by simp [rd, h]
theorem w64_small {a : Int} (h0 : -1000000000000 ≤ a) (h1 : a ≤ 1000000000000) : wrap64 a = a := by unfold wrap64; omega

/-- a length's weight; is there a code? -/
def wOf (x : Int) : Nat := if 0 < x ∧ x < 16 then 2 ^ (15 - x.toNat) else 0
def aOf (x : Int) : Nat := if 0 < x ∧ x < 16 then 1 else 0
def wsum (l : List Int) : Nat := (l.map wOf).sum
def asum (l : List Int) : Nat := (l.map aOf).sum
theorem wtK_cons (x : Int) (l : List Int) (k : Nat) : wtK (x :: l) k = wtK l k + if 0 < x ∧ x < k then 2 ^ (15 - x.toNat) else 0 := by
  induction k with
  | zero =>
    rw [if_neg (by omega)]
    rfl
  | succ k ih =>
    by_cases h0 : k = 0
    · subst h0
      rw [if_neg (by omega)]
      simp [wtK]
    · rw [wtK_succ _ k (by omega), wtK_succ _ k (by omega), ih, List.count_cons]
      by_cases e : x = (k : Int)
      · subst e
        rw [if_pos (show ((k : Int) == (k : Int)) = true by simp), if_neg (show ¬ (0 < (k : Int) ∧ (k : Int) < (k : Int)) by omega), if_pos (show 0 < (k : Int) ∧ (k : Int) < ((k + 1 : Nat) : Int) by omega), Nat.add_mul, Int.toNat_natCast]
        omega
      · rw [if_neg (show ¬ ((x == (k : Int)) = true) by simpa using e), Nat.add_zero]
        by_cases h1 : 0 < x ∧ x < (k : Int)
        · rw [if_pos h1, if_pos (show 0 < x ∧ x < ((k + 1 : Nat) : Int) by omega)]
          omega
        · rw [if_neg h1, if_neg (show ¬ (0 < x ∧ x < ((k + 1 : Nat) : Int)) by omega)]
          omega
theorem allK_cons (x : Int) (l : List Int) (k : Nat) : allK (x :: l) k = allK l k + if 0 < x ∧ x < k then 1 else 0 := by
  induction k with
  | zero =>
    rw [if_neg (by omega)]
    rfl
  | succ k ih =>
    by_cases h0 : k = 0
    · subst h0
      rw [if_neg (by omega)]
      simp [allK]
    · rw [allK_succ _ k (by omega), allK_succ _ k (by omega), ih, List.count_cons]
      by_cases e : x = (k : Int)
      · subst e
        rw [if_pos (show ((k : Int) == (k : Int)) = true by simp), if_neg (show ¬ (0 < (k : Int) ∧ (k : Int) < (k : Int)) by omega), if_pos (show 0 < (k : Int) ∧ (k : Int) < ((k + 1 : Nat) : Int) by omega)]
        omega
      · rw [if_neg (show ¬ ((x == (k : Int)) = true) by simpa using e), Nat.add_zero]
        by_cases h1 : 0 < x ∧ x < (k : Int)
        · rw [if_pos h1, if_pos (show 0 < x ∧ x < ((k + 1 : Nat) : Int) by omega)]
          omega
        · rw [if_neg h1, if_neg (show ¬ (0 < x ∧ x < ((k + 1 : Nat) : Int)) by omega)]
          omega
theorem wtK_nil (k : Nat) : wtK [] k = 0 ∧ allK [] k = 0 := by
  induction k with
  | zero => exact ⟨rfl, rfl⟩
  | succ k ih => simp [wtK, allK, ih.1, ih.2]
theorem wt_sum (l : List Int) : wtK l 16 = wsum l ∧ allK l 16 = asum l := by
  induction l with
  | nil => exact wtK_nil 16
  | cons x l ih =>
    rw [wtK_cons, allK_cons, ih.1, ih.2]
    simp only [wsum, asum, List.map_cons, List.sum_cons, wOf, aOf]
    constructor
    · rw [Nat.add_comm]; rfl
    · rw [Nat.add_comm]; rfl
theorem kind_eq (l : List Int) (h : good l = true) : kindI l = if asum l = 0 then 0 else if 32768 < wsum l then 4 else if wsum l = 32768 then 2 else if asum l = 1 ∧ l.count 1 = 1 then 1 else 3 := by
  unfold kindI
  rw [if_pos h, (wt_sum l).1, (wt_sum l).2]
theorem kind_bad5 (l : List Int) (h : good l = false) : kindI l = 5 := by unfold kindI; rw [h]; simp
theorem kind_ne5 (l : List Int) (h : good l = true) : kindI l ≠ 5 := by
  rw [kind_eq l h]
  repeat (first | (split; · decide) | decide)
theorem sum_set (f : Int → Nat) : ∀ (l : List Int) (k : Nat) (y : Int) (h : k < l.length), ((l.set k y).map f).sum + f l[k] = (l.map f).sum + f y
  | x :: l, 0, y, _ => by simp; omega
  | x :: l, k + 1, y, h => by
    have := sum_set f l k y (by simpa using h)
    simp only [List.set_cons_succ, List.map_cons, List.sum_cons, List.getElem_cons_succ]
    omega
theorem rd_mem' (l : List Int) (i : Nat) (h : i < l.length) : rd l (i : Int) ∈ l := by simp [rd, h]
theorem codesS_length (l : List Int) : (codesS l).length = l.length := by simp [codesS, codesK_length]
theorem codesS_get (l : List Int) (i : Nat) (h : i < l.length) : (codesS l)[i]? = some (⟨((codeAt l i).1 : Int), ((codeAt l i).2 : Int)⟩ : S31) := by
  simp [codesS, codesK_get l l.length i h, h]
theorem codesS_rd (l : List Int) (i : Nat) (h : i < l.length) : rd_T31 (codesS l) (i : Int) = (⟨((codeAt l i).1 : Int), ((codeAt l i).2 : Int)⟩ : S31) := by
  simp [rd_T31, codesS_get l i h]
/-- two lists of codes are the same -/
theorem same_some (k : Nat) (a b : List S31) (h : a = b) (hk : a.length < k) (hl : a.length ≤ 1000000) : platenref05_Same.f k a b = some true := by
  subst h
  unfold platenref05_Same.f
  rw [if_pos rfl]
  have key : ∀ (d i k : Nat), i + d = a.length → d < k → platenref05_Same.l0 k a a (i : Int) = some true := by
    intro d
    induction d with
    | zero =>
      intro i k hi hk
      obtain ⟨k, rfl⟩ : ∃ m, k = m + 1 := ⟨k - 1, by omega⟩
      simp only [platenref05_Same.l0]
      rw [if_neg (by omega)]
    | succ d ih =>
      intro i k hi hk
      obtain ⟨k, rfl⟩ : ∃ m, k = m + 1 := ⟨k - 1, by omega⟩
      simp only [platenref05_Same.l0]
      rw [if_pos (by omega), if_pos (by omega), if_pos (by omega), if_neg (by simp), show wrap64 ((i : Int) + 1) = ((i + 1 : Nat) : Int) by unfold wrap64; omega]
      exact ih (i + 1) k (by omega) (by omega)
  exact key a.length 0 k (by omega) hk
end Go.Proofs.Ytogpjdiammecjaa.Pure
