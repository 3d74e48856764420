/-
  Canon: the codes lie side by side: each row of bits begins with one code at most.
-/
import Derived.Test.YtogpjdiammecjaaPCx16
import Derived.Test.YtogpjdiammecjaaMathA
set_option linter.unusedSimpArgs false
set_option linter.unusedVariables false
namespace Go.Proofs.Ytogpjdiammecjaa.Pure
open Go.RowKit Go.Proofs.Ytogpjdiammecjaa.PC Go.Proofs.YtogpjdiammecjaaW.PrintWords Go.Proofs.YtogpjdiammecjaaW.PrintLast

def sumG (f : Nat → Int) : Nat → Int
  | 0 => 0
  | k + 1 => sumG f k + f k
theorem sumG_congr (f g : Nat → Int) (k : Nat) (h : ∀ i, i < k → f i = g i) : sumG f k = sumG g k := by
  induction k with
  | zero => rfl
  | succ k ih => simp only [sumG]; rw [ih (fun i hi => h i (by omega)), h k (by omega)]
theorem sumG_one (f g : Nat → Int) (n : Nat) : ∀ (k : Nat), n < k → (∀ i, i < k → i ≠ n → f i = g i) → sumG f k = sumG g k + (f n - g n)
  | 0, h, _ => by omega
  | k + 1, h, he => by
    simp only [sumG]
    by_cases e : n = k
    · subst e
      rw [sumG_congr f g n (fun i hi => he i (by omega) (by omega))]
      omega
    · rw [sumG_one f g n k (by omega) (fun i hi hn => he i (by omega) hn), he k (by omega) (fun x => e x.symm)]
      omega

theorem bit_some (b n i : Nat) (h1 : 1 ≤ n) (h15 : n ≤ 15) (hi : i < n) : platenref05_Bit.f (b : Int) (n : Int) (i : Int) = some (((b / 2 ^ (n - 1 - i)) % 2 : Nat) : Int) := by
  unfold platenref05_Bit.f
  have e1 : wrap64 (n : Int) = n := w64_small (by omega) (by omega)
  have e2 : wrap64 ((n : Int) - 1) = ((n - 1 : Nat) : Int) := by rw [w64_small (by omega) (by omega)]; omega
  have e3 : wrap64 (((n - 1 : Nat) : Int) - (i : Int)) = ((n - 1 - i : Nat) : Int) := by rw [w64_small (by omega) (by omega)]; omega
  have e4 : IntKind.u64.wrap ((n - 1 - i : Nat) : Int) = ((n - 1 - i : Nat) : Int) := by
    unfold IntKind.wrap
    simp [IntKind.bits, IntKind.signed]
    omega
  rw [e1, e2, e3, e4, if_pos (by omega)]
  have e5 : shr .u32 (b : Int) ((n - 1 - i : Nat) : Int) = (b : Int) / 2 ^ min (n - 1 - i) 32 := rfl
  rw [e5, Nat.min_eq_left (by omega), Int.tmod_eq_emod_of_nonneg (by
    have : (0 : Int) ≤ (b : Int) / 2 ^ (n - 1 - i) := Int.ediv_nonneg (by omega) (by exact Int.le_of_lt (Int.pow_pos (by omega)))
    exact this)]
  simp
theorem begins_l0 (b R n : Nat) (h1 : 1 ≤ n) (h15 : n ≤ 15) : ∀ (m i k : Nat), i + m = n → platenref05_Begins.l0 (k + m + 1) (i : Int) (b : Int) (n : Int) (R : Int) 15 = some (decide (b % 2 ^ m = (R / 2 ^ (15 - n)) % 2 ^ m)) := by
  intro m
  induction m with
  | zero =>
    intro i k hi
    simp only [platenref05_Begins.l0, Nat.add_zero]
    rw [w64_small (by omega) (by omega), if_neg (by omega)]
    simp [Nat.mod_one]
  | succ m ih =>
    intro i k hi
    show platenref05_Begins.l0 (k + m + 1 + 1) (i : Int) (b : Int) (n : Int) (R : Int) 15 = _
    obtain ⟨K, hK⟩ : ∃ K, K = k + m + 1 := ⟨_, rfl⟩
    rw [← hK]
    simp only [platenref05_Begins.l0]
    rw [hK]
    clear hK K
    have hR := bit_some R 15 i (by omega) (by omega) (by omega)
    rw [w64_small (a := (n : Int)) (by omega) (by omega), if_pos (by omega), bit_some b n i h1 h15 (by omega)]
    rw [show ((15 : Nat) : Int) = 15 from rfl] at hR
    rw [hR]
    simp only [Option.bind_some]
    have e1 : R / 2 ^ (15 - 1 - i) = R / 2 ^ (15 - n) / 2 ^ m := by
      rw [Nat.div_div_eq_div_mul, ← Nat.pow_add]
      congr 2
      omega
    have e2 : n - 1 - i = m := by omega
    rw [e1, e2, Nat.mod_pow_succ, Nat.mod_pow_succ]
    generalize R / 2 ^ (15 - n) = q at *
    have l1 : b % 2 ^ m < 2 ^ m := Nat.mod_lt _ (Nat.pow_pos (by omega))
    have l2 : q % 2 ^ m < 2 ^ m := Nat.mod_lt _ (Nat.pow_pos (by omega))
    have d1 : b / 2 ^ m % 2 < 2 := Nat.mod_lt _ (by omega)
    have d2 : q / 2 ^ m % 2 < 2 := Nat.mod_lt _ (by omega)
    by_cases hb : b / 2 ^ m % 2 = q / 2 ^ m % 2
    · rw [if_pos (by omega), w64_small (by omega) (by omega), hb]
      have := ih (i + 1) k (by omega)
      rw [show ((i : Int) + 1) = ((i + 1 : Nat) : Int) by omega, this]
      congr 1
      rw [decide_eq_decide]
      omega
    · rw [if_neg (by omega)]
      congr 1
      symm
      rw [decide_eq_false_iff_not]
      intro he
      apply hb
      generalize b / 2 ^ m % 2 = x at *
      generalize q / 2 ^ m % 2 = y at *
      generalize b % 2 ^ m = u at *
      generalize q % 2 ^ m = v at *
      obtain rfl | rfl : x = 0 ∨ x = 1 := by omega
      · obtain rfl | rfl : y = 0 ∨ y = 1 := by omega
        · rfl
        · omega
      · obtain rfl | rfl : y = 0 ∨ y = 1 := by omega
        · omega
        · rfl
theorem begins_some (b R n k : Nat) (h1 : 1 ≤ n) (h15 : n ≤ 15) (hb : b < 2 ^ n) (hR : R < 32768) : platenref05_Begins.f (k + 17) (b : Int) (n : Int) (R : Int) 15 = some (decide (R / 2 ^ (15 - n) = b)) := by
  unfold platenref05_Begins.f
  rw [if_neg (by omega)]
  have := begins_l0 b R n h1 h15 n 0 (k + 16 - n) (by omega)
  rw [show k + 16 - n + n + 1 = k + 17 by omega] at this
  rw [show ((0 : Nat) : Int) = 0 from rfl] at this
  rw [this]
  have hq : R / 2 ^ (15 - n) < 2 ^ n := by
    rw [Nat.div_lt_iff_lt_mul (Nat.pow_pos (by omega)), ← Nat.pow_add, show n + (15 - n) = 15 by omega]
    exact hR
  rw [Nat.mod_eq_of_lt hb, Nat.mod_eq_of_lt hq]
  congr 1
  rw [decide_eq_decide]
  exact ⟨fun h => h.symm, fun h => h.symm⟩

/-- does symbol i's code begin the row R? -/
def hit (l : List Int) (R i : Nat) : Bool := decide (rd l (i : Int) ≠ 0) && decide (R / 2 ^ (15 - (codeAt l i).2) = (codeAt l i).1)
/-- of length n: is R among the rows of the codes of the first i symbols? -/
def among (l : List Int) (R i n : Nat) : Int := if n = 0 then 0 else if startN l n ≤ R / 2 ^ (15 - n) ∧ R / 2 ^ (15 - n) < startN l n + (l.take i).count (n : Int) then 1 else 0
/-- how many of the first i -/
def hits (l : List Int) (R : Nat) : Nat → Int
  | 0 => 0
  | i + 1 => hits l R i + if hit l R i = true then 1 else 0
theorem hits_among (l : List Int) (R : Nat) (hg : ∀ x ∈ l, 0 ≤ x ∧ x ≤ 15) : ∀ i, i ≤ l.length → hits l R i = sumG (among l R i) 16 := by
  intro i
  induction i with
  | zero =>
    intro _
    have : ∀ k, sumG (among l R 0) k = 0 := by
      intro k
      induction k with
      | zero => rfl
      | succ k ih =>
        have h0 : among l R 0 k = 0 := by
          unfold among
          by_cases h : k = 0
          · rw [if_pos h]
          · rw [if_neg h, if_neg (by simp only [List.take_zero, List.count_nil]; omega)]
        simp only [sumG, ih, h0]
        rfl
    rw [this]; rfl
  | succ i ih =>
    intro hi
    have hx := hg _ (rd_mem' l i hi)
    obtain ⟨n, hn⟩ : ∃ n : Nat, rd l (i : Int) = (n : Int) := ⟨(rd l (i : Int)).toNat, by omega⟩
    have ht := take_snoc_int l i hi
    simp only [hits]
    rw [ih (by omega)]
    by_cases h0 : n = 0
    · subst h0
      have : hit l R i = false := by unfold hit; rw [hn]; simp
      rw [this, if_neg (by simp), Int.add_zero]
      refine sumG_congr _ _ _ fun m hm => ?_
      unfold among
      by_cases hm0 : m = 0
      · rw [if_pos hm0, if_pos hm0]
      · rw [if_neg hm0, if_neg hm0, ht, hn, List.count_append]
        simp [List.count_cons, show ¬ ((0 : Int) = (m : Int)) by omega]
    · have hc : codeAt l i = (startN l n + (l.take i).count (n : Int), n) := by
        unfold codeAt
        rw [hn, if_neg (by omega)]
        simp
      have hh : hit l R i = decide (R / 2 ^ (15 - n) = startN l n + (l.take i).count (n : Int)) := by
        unfold hit
        rw [hc, hn]
        simp [show ¬ (n = 0) from h0]
      rw [hh, sumG_one (among l R (i + 1)) (among l R i) n 16 (by omega) (fun m hm hne => ?_)]
      · congr 1
        unfold among
        rw [if_neg h0, if_neg h0, ht, hn, List.count_append, List.count_singleton]
        generalize R / 2 ^ (15 - n) = q
        generalize startN l n = s
        generalize (l.take i).count (n : Int) = c
        simp only [beq_self_eq_true, if_true, decide_eq_true_eq]
        by_cases e : q = s + c
        · rw [if_pos e, if_pos (by omega), if_neg (by omega)]; rfl
        · rw [if_neg e]
          by_cases e2 : s ≤ q ∧ q < s + c
          · rw [if_pos (by omega), if_pos e2]; rfl
          · rw [if_neg (by omega), if_neg e2]; rfl
      · unfold among
        by_cases hm0 : m = 0
        · rw [if_pos hm0, if_pos hm0]
        · rw [if_neg hm0, if_neg hm0, ht, hn, List.count_append]
          simp [List.count_cons, show ¬ ((n : Int) = (m : Int)) by omega]
theorem among_all (l : List Int) (R : Nat) : ∀ k, k ≤ 16 → sumG (among l R l.length) k = if R < wtK l k then 1 else 0 := by
  intro k
  induction k with
  | zero => intro _; simp [sumG, wtK]
  | succ k ih =>
    intro hk
    simp only [sumG]
    rw [ih (by omega)]
    by_cases h0 : k = 0
    · subst h0
      simp [among, wtK]
    · unfold among
      rw [if_neg h0, List.take_of_length_le (Nat.le_refl _)]
      have e1 := start_weight l k (by omega) (by omega)
      have e2 := wtK_succ l k (by omega)
      have hp : 0 < 2 ^ (15 - k) := Nat.pow_pos (by omega)
      have i1 : startN l k ≤ R / 2 ^ (15 - k) ↔ wtK l k ≤ R := by rw [Nat.le_div_iff_mul_le hp, e1]
      have i2 : R / 2 ^ (15 - k) < startN l k + l.count (k : Int) ↔ R < wtK l (k + 1) := by rw [Nat.div_lt_iff_lt_mul hp, Nat.add_mul, e1, e2]
      by_cases c1 : R < wtK l k
      · rw [if_pos c1, if_neg (by rw [i1, i2]; omega), if_pos (by omega)]; rfl
      · rw [if_neg c1]
        by_cases c2 : R < wtK l (k + 1)
        · rw [if_pos c2, if_pos (by rw [i1, i2]; omega)]; rfl
        · rw [if_neg c2, if_neg (by rw [i1, i2]; omega)]; rfl
theorem hits_all (l : List Int) (R : Nat) (hg : ∀ x ∈ l, 0 ≤ x ∧ x ≤ 15) : hits l R l.length = if R < wsum l then 1 else 0 := by
  rw [hits_among l R hg l.length (Nat.le_refl _), among_all l R 16 (Nat.le_refl _), (wt_sum l).1]
end Go.Proofs.Ytogpjdiammecjaa.Pure
