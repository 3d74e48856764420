/-
  CanonApart: plain facts: no code begins another one; codes of one length, and those of two, rise with their symbols, and with their lengths.
-/
import Derived.Test.YtogpjdiammecjaaMathN
set_option linter.unusedSimpArgs false
set_option linter.unusedVariables false
namespace Go.Proofs.Ytogpjdiammecjaa
open Go.RowKit Go.Proofs.YtogpjdiammecjaaW.PrintWords

theorem start_grow (l : List Int) (n : Nat) (h1 : 1 ≤ n) : ∀ d, (startN l n + l.count (n : Int)) * 2 ^ (d + 1) ≤ startN l (n + d + 1)
  | 0 => by rw [show n + 0 + 1 = n + 1 by omega, startN_succ l n (by omega)]; simp
  | d + 1 => by
    have h := start_grow l n h1 d
    rw [show n + (d + 1) + 1 = (n + d + 1) + 1 by omega, startN_succ l (n + d + 1) (by omega), Nat.pow_succ, ← Nat.mul_assoc]
    have : startN l (n + d + 1) * 2 ≤ (startN l (n + d + 1) + l.count ((n + d + 1 : Nat) : Int)) * 2 := by omega
    omega
/-- a symbol's code, of a length above 0 -/
theorem code_at (l : List Int) {i n : Nat} (hn : rd l (i : Int) = (n : Int)) (h0 : 0 < n) : codeAt l i = (startN l n + (l.take i).count (n : Int), n) := by
  unfold codeAt
  rw [hn, if_neg (by omega), Int.toNat_natCast]
theorem count_lt (l : List Int) {i n : Nat} (hi : i < l.length) (hn : rd l (i : Int) = (n : Int)) : (l.take i).count (n : Int) < l.count (n : Int) := by
  have h1 : (l.take (i + 1)).count (n : Int) = (l.take i).count (n : Int) + 1 := by
    rw [take_snoc_int l i hi, List.count_append, hn]
    simp
  have h2 : (l.take (i + 1)).count (n : Int) ≤ l.count (n : Int) := (List.take_sublist _ _).count_le _
  omega
theorem count_rise (l : List Int) {i k n : Nat} (hik : i < k) (hk : k ≤ l.length) (hn : rd l (i : Int) = (n : Int)) : (l.take i).count (n : Int) < (l.take k).count (n : Int) := by
  have h1 : (l.take (i + 1)).count (n : Int) = (l.take i).count (n : Int) + 1 := by
    rw [take_snoc_int l i (by omega), List.count_append, hn]
    simp
  have hs : (l.take (i + 1)).Sublist (l.take k) := by
    have : l.take (i + 1) = (l.take k).take (i + 1) := by rw [List.take_take, Nat.min_eq_left (by omega)]
    rw [this]
    exact List.take_sublist _ _
  have h2 := hs.count_le (n : Int)
  omega
/-- it fits in its length -/
theorem code_fits (l : List Int) (hw : wtK l 16 ≤ 32768) {i n : Nat} (hi : i < l.length) (hn : rd l (i : Int) = (n : Int)) (h0 : 0 < n) (h15 : n ≤ 15) : (codeAt l i).1 < 2 ^ n := by
  have h1 := count_lt l hi hn
  have h2 := start_le l hw n h0 h15
  rw [code_at l hn h0]
  simp only []
  omega
/-- of two lengths: the shorter one's is less than the longer one's first bits -/
theorem apart_less (l : List Int) {i k n m : Nat} (hi : i < l.length) (hn : rd l (i : Int) = (n : Int)) (hm : rd l (k : Int) = (m : Int)) (h0 : 0 < n) (h : n < m) : (codeAt l i).1 < (codeAt l k).1 / 2 ^ (m - n) := by
  have h1 := count_lt l hi hn
  have h2 := start_grow l n h0 (m - n - 1)
  rw [show m - n - 1 + 1 = m - n by omega, show n + (m - n - 1) + 1 = m by omega] at h2
  rw [code_at l hn h0, code_at l hm (by omega)]
  simp only []
  refine Nat.lt_of_lt_of_le ?_ ((Nat.le_div_iff_mul_le (Nat.two_pow_pos _)).2 (Nat.le_trans h2 (Nat.le_add_right _ _)))
  omega
/-- of one length: they rise with their symbols -/
theorem apart_rise (l : List Int) {i k n : Nat} (hi : i < l.length) (hk : k < l.length) (hn : rd l (i : Int) = (n : Int)) (hm : rd l (k : Int) = (n : Int)) (h0 : 0 < n) (hik : i ≠ k) : ((codeAt l i).1 < (codeAt l k).1 ↔ i < k) ∧ (codeAt l i).1 ≠ (codeAt l k).1 := by
  rw [code_at l hn h0, code_at l hm h0]
  simp only []
  rcases Nat.lt_or_gt_of_ne hik with h | h
  · have := count_rise l h (Nat.le_of_lt hk) hn
    omega
  · have := count_rise l h (Nat.le_of_lt hi) hm
    omega
end Go.Proofs.Ytogpjdiammecjaa
