/-
  CanonSplit: for every lengths, counts, symbol and part, the law answers true.
-/
import Derived.Test.YtogpjdiammecjaaPCx19
import Derived.Test.YtogpjdiammecjaaMathA
set_option linter.unusedSimpArgs false
set_option linter.unusedVariables false
namespace Go.Proofs.Ytogpjdiammecjaa.Pure
open Go.RowKit Go.Proofs.Ytogpjdiammecjaa.PC Go.Proofs.YtogpjdiammecjaaW.PrintWords Go.Proofs.YtogpjdiammecjaaW.PrintLast

def sumF (f : Nat → Int) : Nat → Int
  | 0 => 0
  | k + 1 => sumF f k + f k
theorem sumF_congr (f g : Nat → Int) (k : Nat) (h : ∀ i, i < k → f i = g i) : sumF f k = sumF g k := by
  induction k with
  | zero => rfl
  | succ k ih => simp only [sumF]; rw [ih (fun i hi => h i (by omega)), h k (by omega)]
theorem sumF_one (f g : Nat → Int) (n : Nat) : ∀ (k : Nat), n < k → (∀ i, i < k → i ≠ n → f i = g i) → sumF f k = sumF g k + (f n - g n)
  | 0, h, _ => by omega
  | k + 1, h, he => by
    simp only [sumF]
    by_cases e : n = k
    · subst e
      rw [sumF_congr f g n (fun i hi => he i (by omega) (by omega))]
      omega
    · rw [sumF_one f g n k (by omega) (fun i hi hn => he i (by omega) hn), he k (by omega) (fun x => e x.symm)]
      omega
theorem weigh_sum (l c : List Int) (k : Nat) (hk : k ≤ 1000) (hl : ∀ i, i < k → 0 ≤ rd l (i : Int) ∧ rd l (i : Int) ≤ 15) (hc : ∀ i, i < k → 0 ≤ rd c (i : Int) ∧ rd c (i : Int) ≤ 65535) :
    weighK l c k = sumF (fun i => rd l (i : Int) * rd c (i : Int)) k ∧ 0 ≤ weighK l c k ∧ weighK l c k ≤ k * 1000000 := by
  induction k with
  | zero => exact ⟨rfl, Int.le_refl _, Int.le_refl _⟩
  | succ k ih =>
    obtain ⟨h1, h2, h3⟩ := ih (by omega) (fun i hi => hl i (by omega)) (fun i hi => hc i (by omega))
    obtain ⟨a1, a2⟩ := hl k (by omega)
    obtain ⟨b1, b2⟩ := hc k (by omega)
    have m1 : 0 ≤ rd l (k : Int) * rd c (k : Int) := Int.mul_nonneg a1 b1
    have m2 : rd l (k : Int) * rd c (k : Int) ≤ 15 * 65535 := Int.mul_le_mul a2 b2 b1 (by omega)
    have e : weighK l c (k + 1) = weighK l c k + rd l (k : Int) * rd c (k : Int) := by
      simp only [weighK]
      rw [if_neg (show ¬ rd c (k : Int) < 0 by omega), w64_small (a := rd l (k : Int) * rd c (k : Int)) (by omega) (by omega), w64_small (by omega) (by omega)]
    rw [e]
    refine ⟨by simp only [sumF]; rw [h1], by omega, ?_⟩
    have : ((k + 1 : Nat) : Int) * 1000000 = (k : Int) * 1000000 + 1000000 := by omega
    omega
/-- the counts that were copied so far -/
def cK (L : Nat) (l1 : List Int) (m : Nat) : List Int := (List.range (L + 1)).map fun j => if j < m then rd l1 (j : Int) else 0
theorem cK_length (L : Nat) (l1 : List Int) (m : Nat) : (cK L l1 m).length = L + 1 := by simp [cK]
theorem cK_rd (L : Nat) (l1 : List Int) (m j : Nat) (h : j < L + 1) : rd (cK L l1 m) (j : Int) = if j < m then rd l1 (j : Int) else 0 := by simp [rd, cK, h]
theorem cK_set (L : Nat) (l1 : List Int) (m : Nat) (h : m < L + 1) : (cK L l1 m).set m (rd l1 (m : Int)) = cK L l1 (m + 1) := by
  apply List.ext_getElem?
  intro j
  by_cases hj : j < L + 1
  · rw [List.getElem?_set, cK_length]
    by_cases e : m = j
    · subst e; simp [cK, hj]
    · rw [if_neg e]
      simp only [cK, List.getElem?_map, List.getElem?_range hj, Option.map_some]
      by_cases h1 : j < m
      · rw [if_pos h1, if_pos (by omega)]
      · rw [if_neg h1, if_neg (by omega)]
  · rw [List.getElem?_eq_none (by rw [List.length_set, cK_length]; omega), List.getElem?_eq_none (by rw [cK_length]; omega)]
theorem rd_set_self (l : List Int) (n : Nat) (x : Int) (h : n < l.length) : rd (l.set n x) (n : Int) = x := by simp [rd, h]
theorem rd_set_ne (l : List Int) (n i : Nat) (x : Int) (h : i ≠ n) : rd (l.set n x) (i : Int) = rd l (i : Int) := by simp [rd, List.getElem?_set, Ne.symm h]
theorem rd_snoc_lt (l : List Int) (x : Int) (i : Nat) (h : i < l.length) : rd (l ++ [x]) (i : Int) = rd l (i : Int) := by simp [rd, List.getElem?_append, h]
theorem rd_snoc (l : List Int) (x : Int) (n : Nat) (h : n = l.length) : rd (l ++ [x]) (n : Int) = x := by subst h; simp [rd]
theorem rd_mem (l : List Int) (i : Nat) (h : i < l.length) : rd l (i : Int) ∈ l := by simp [rd, h]

theorem split_kind (l : List Int) (n : Nat) (hn : n < l.length) (hl : l.length ≤ 300) (hg : good l = true) (h1 : 1 ≤ rd l (n : Int)) (h2 : rd l (n : Int) < 15) :
    kindI l = kindI (l.set n (rd l (n : Int) + 1) ++ [rd l (n : Int) + 1]) ∨ kindI l = 1 ∧ kindI (l.set n (rd l (n : Int) + 1) ++ [rd l (n : Int) + 1]) = 3 := by
  have hx : l[n] = rd l (n : Int) := (rd_eq l n hn).symm
  have hg2 : good (l.set n (rd l (n : Int) + 1) ++ [rd l (n : Int) + 1]) = true := by
    rw [good_iff]
    refine ⟨by simp; omega, fun x hx => ?_⟩
    rcases List.mem_append.1 hx with h | h
    · rcases List.mem_or_eq_of_mem_set h with h | h
      · exact ((good_iff l).1 hg).2 x h
      · omega
    · rw [List.mem_singleton.1 h]; omega
  have hw : wsum (l.set n (rd l (n : Int) + 1) ++ [rd l (n : Int) + 1]) = wsum l := by
    have := sum_set wOf l n (rd l (n : Int) + 1) hn
    rw [hx] at this
    simp only [wsum, List.map_append, List.sum_append, List.map_cons, List.map_nil, List.sum_cons, List.sum_nil]
    have e : wOf (rd l (n : Int)) = wOf (rd l (n : Int) + 1) + wOf (rd l (n : Int) + 1) := by
      unfold wOf
      rw [if_pos (by omega), if_pos (by omega), ← Nat.two_mul, ← Nat.pow_succ']
      congr 1
      omega
    omega
  have ha : asum (l.set n (rd l (n : Int) + 1) ++ [rd l (n : Int) + 1]) = asum l + 1 := by
    have := sum_set aOf l n (rd l (n : Int) + 1) hn
    rw [hx] at this
    simp only [asum, List.map_append, List.sum_append, List.map_cons, List.map_nil, List.sum_cons, List.sum_nil]
    have e1 : aOf (rd l (n : Int)) = 1 := by unfold aOf; rw [if_pos (by omega)]
    have e2 : aOf (rd l (n : Int) + 1) = 1 := by unfold aOf; rw [if_pos (by omega)]
    omega
  have ha0 : asum l ≠ 0 := by
    intro h0
    have := sum_set aOf l n 0 hn
    rw [hx] at this
    have e1 : aOf (rd l (n : Int)) = 1 := by unfold aOf; rw [if_pos (by omega)]
    have e2 : (l.map aOf).sum = 0 := h0
    have e3 : aOf 0 = 0 := rfl
    omega
  rw [kind_eq l hg, kind_eq _ hg2, hw, ha, if_neg ha0, if_neg (show ¬ asum l + 1 = 0 by omega)]
  by_cases c1 : 32768 < wsum l
  · rw [if_pos c1, if_pos c1]; exact .inl rfl
  · rw [if_neg c1, if_neg c1]
    by_cases c2 : wsum l = 32768
    · rw [if_pos c2, if_pos c2]; exact .inl rfl
    · rw [if_neg c2, if_neg c2]
      rw [if_neg (show ¬ (asum l + 1 = 1 ∧ _) from fun h => by omega)]
      by_cases c3 : asum l = 1 ∧ l.count 1 = 1
      · rw [if_pos c3]; exact .inr ⟨rfl, rfl⟩
      · rw [if_neg c3]; exact .inl rfl

theorem split_weigh (l c : List Int) (n : Nat) (p : Int) (hn : n < l.length) (hL : l.length ≤ 300) (hc : c.length = l.length + 1) (hg : ∀ x ∈ l, 0 ≤ x ∧ x ≤ 15) (h2 : rd l (n : Int) < 15) (hcb : ∀ i, i < l.length → 0 ≤ rd c (i : Int) ∧ rd c (i : Int) ≤ 65535)
    (hp0 : 0 ≤ p) (hp : p ≤ rd c (n : Int)) :
    weighK (l.set n (rd l (n : Int) + 1) ++ [rd l (n : Int) + 1]) ((c.set l.length p).set n (rd c (n : Int) - p)) (l.length + 1) = weighK l c l.length + rd c (n : Int) ∧ 0 ≤ weighK l c l.length ∧ weighK l c l.length ≤ 300000000 := by
  have hr : ∀ i, i < l.length → 0 ≤ rd l (i : Int) ∧ rd l (i : Int) ≤ 15 := fun i hi => hg _ (rd_mem l i hi)
  obtain ⟨e1, e2, e3⟩ := weigh_sum l c l.length (by omega) hr hcb
  have hlen : (l.set n (rd l (n : Int) + 1)).length = l.length := by simp
  have ra : ∀ i, i < l.length → i ≠ n → rd (l.set n (rd l (n : Int) + 1) ++ [rd l (n : Int) + 1]) (i : Int) = rd l (i : Int) := fun i hi hne => by rw [rd_snoc_lt _ _ _ (by rw [hlen]; exact hi), rd_set_ne _ _ _ _ hne]
  have rn : rd (l.set n (rd l (n : Int) + 1) ++ [rd l (n : Int) + 1]) (n : Int) = rd l (n : Int) + 1 := by rw [rd_snoc_lt _ _ _ (by rw [hlen]; exact hn), rd_set_self _ _ _ hn]
  have rL : rd (l.set n (rd l (n : Int) + 1) ++ [rd l (n : Int) + 1]) (l.length : Int) = rd l (n : Int) + 1 := rd_snoc _ _ _ hlen.symm
  have ca : ∀ i, i < l.length → i ≠ n → rd ((c.set l.length p).set n (rd c (n : Int) - p)) (i : Int) = rd c (i : Int) := fun i hi hne => by rw [rd_set_ne _ _ _ _ hne, rd_set_ne _ _ _ _ (by omega)]
  have cn : rd ((c.set l.length p).set n (rd c (n : Int) - p)) (n : Int) = rd c (n : Int) - p := rd_set_self _ _ _ (by simp; omega)
  have cL : rd ((c.set l.length p).set n (rd c (n : Int) - p)) (l.length : Int) = p := by rw [rd_set_ne _ _ _ _ (by omega), rd_set_self _ _ _ (by omega)]
  obtain ⟨b1, b2⟩ := hr n hn
  obtain ⟨b3, b4⟩ := hcb n hn
  obtain ⟨f1, f2, f3⟩ := weigh_sum (l.set n (rd l (n : Int) + 1) ++ [rd l (n : Int) + 1]) ((c.set l.length p).set n (rd c (n : Int) - p)) (l.length + 1) (by omega) (fun i hi => by
    by_cases e : i = n
    · subst e; rw [rn]; omega
    · by_cases e' : i = l.length
      · subst e'; rw [rL]; omega
      · rw [ra i (by omega) e]; exact hr i (by omega)) (fun i hi => by
    by_cases e : i = n
    · subst e; rw [cn]; omega
    · by_cases e' : i = l.length
      · subst e'; rw [cL]; omega
      · rw [ca i (by omega) e]; exact hcb i (by omega))
  refine ⟨?_, e2, by have : (l.length : Int) * 1000000 ≤ 300 * 1000000 := by omega
                     omega⟩
  rw [f1, e1]
  simp only [sumF]
  rw [rL, cL, sumF_one _ (fun i => rd l (i : Int) * rd c (i : Int)) n l.length hn (fun i hi hne => by rw [ra i hi hne, ca i hi hne])]
  simp only [rn, cn]
  generalize rd l (n : Int) = x
  generalize rd c (n : Int) = y
  generalize sumF (fun i => rd l (i : Int) * rd c (i : Int)) l.length = s
  have : (x + 1) * (y - p) + (x + 1) * p = x * y + y := by
    rw [← Int.mul_add, show y - p + p = y by omega, Int.add_mul, Int.one_mul]
  omega

theorem split_l0 (l l1 : List Int) (x3 : Int) (n : Nat) (hl : l.length ≤ 300) (h1 : ∀ x ∈ l1, 0 ≤ x ∧ x < 65536) (h4 : l1.length ≤ 400) :
    ∀ (d i k : Nat), i + d = min l.length l1.length → platenlaw05_CanonSplit.l0 (k + d + 1) l l1 x3 (n : Int) l (cK l.length l1 i) (i : Int) = platenlaw05_CanonSplit.j3 k l x3 (n : Int) l (cK l.length l1 (min l.length l1.length)) := by
  intro d
  induction d with
  | zero =>
    intro i k hi
    simp only [Nat.add_zero, platenlaw05_CanonSplit.l0]
    by_cases c1 : (i : Int) < (l.length : Int)
    · rw [if_pos c1, if_neg (by omega), show min l.length l1.length = i by omega]
    · rw [if_neg c1, show min l.length l1.length = i by omega]
  | succ d ih =>
    intro i k hi
    have hm := h1 _ (rd_mem l1 i (by omega))
    show platenlaw05_CanonSplit.l0 (k + d + 1 + 1) l l1 x3 (n : Int) l (cK l.length l1 i) (i : Int) = _
    simp only [platenlaw05_CanonSplit.l0]
    rw [if_pos (by omega), if_pos (by omega), if_pos (by omega), if_pos (by rw [cK_length]; omega), w64_small (a := rd l1 (i : Int)) (by omega) (by omega), Int.toNat_natCast, cK_set _ _ _ (by omega), w64_small (by omega) (by omega)]
    exact ih (i + 1) k (by omega)
theorem okL_good {l : List Int} (h : ∀ x ∈ l, 0 ≤ x ∧ x ≤ 15) : okL l = true := by
  simp only [okL, List.all_eq_true, decide_eq_true_eq]
  exact fun x hx => by have := h x hx; omega
theorem split_j3 (l c : List Int) (x3 : Int) (n k : Nat) (hn : n < l.length) (hL : l.length ≤ 300) (hc : c.length = l.length + 1) (hg : good l = true) (h0 : ∀ x ∈ l, 0 ≤ x) (h1 : 1 ≤ rd l (n : Int)) (h2 : rd l (n : Int) < 15)
    (hcb : ∀ i, i < l.length → 0 ≤ rd c (i : Int) ∧ rd c (i : Int) ≤ 65535) (hx3 : 0 ≤ x3 ∧ x3 < 65536) : platenlaw05_CanonSplit.j3 (k + 21) l x3 (n : Int) l c = some true := by
  have hg15 : ∀ x ∈ l, 0 ≤ x ∧ x ≤ 15 := fun x hx => ⟨h0 x hx, ((good_iff l).1 hg).2 x hx⟩
  obtain ⟨b3, b4⟩ := hcb n hn
  have ep : Int.tmod (wrap64 x3) (wrap64 (rd c (n : Int) + 1)) = x3 % (rd c (n : Int) + 1) := by
    rw [w64_small (by omega) (by omega), w64_small (by omega) (by omega), Int.tmod_eq_emod_of_nonneg hx3.1]
  have hp0 : 0 ≤ x3 % (rd c (n : Int) + 1) := Int.emod_nonneg _ (by omega)
  have hp1 : x3 % (rd c (n : Int) + 1) < rd c (n : Int) + 1 := Int.emod_lt_of_pos _ (by omega)
  obtain ⟨w1, w2, w3⟩ := split_weigh l c n (x3 % (rd c (n : Int) + 1)) hn hL hc hg15 h2 hcb hp0 (by omega)
  have hk := split_kind l n hn hL hg h1 h2
  have hok2 : okL (l.set n (rd l (n : Int) + 1) ++ [rd l (n : Int) + 1]) = true := okL_good (fun x hx => by
    rcases List.mem_append.1 hx with h | h
    · rcases List.mem_or_eq_of_mem_set h with h | h
      · exact hg15 x h
      · omega
    · rw [List.mem_singleton.1 h]; omega)
  have hlen : (l.set n (rd l (n : Int) + 1) ++ [rd l (n : Int) + 1]).length = l.length + 1 := by simp
  have hW1 : canon_Weigh.f l c = some (weighK l c l.length) := by unfold canon_Weigh.f; rw [if_pos (okL_good hg15), hc, Nat.min_eq_left (by omega)]
  have em : (rd l (n : Int) + 1) % 256 = rd l (n : Int) + 1 := by omega
  simp only [platenlaw05_CanonSplit.j3]
  rw [hW1]
  simp only [Option.bind_some, Int.toNat_natCast]
  rw [if_pos (by omega), if_pos (by omega), if_pos (by omega), em, if_pos (by rw [List.length_set]; omega), rd_set_self _ _ _ hn, if_neg (by rw [w64_small (by omega) (by omega)]; omega), if_pos (by omega), if_pos (by omega), ep]
  rw [rd_set_self c l.length _ (by omega), w64_small (a := rd c (n : Int) - _) (by omega) (by omega)]
  have hW2 : canon_Weigh.f (l.set n (rd l (n : Int) + 1) ++ [rd l (n : Int) + 1]) ((c.set l.length (x3 % (rd c (n : Int) + 1))).set n (rd c (n : Int) - x3 % (rd c (n : Int) + 1))) = some (weighK l c l.length + rd c (n : Int)) := by
    unfold canon_Weigh.f
    rw [if_pos hok2, hlen, List.length_set, List.length_set, hc, Nat.min_self, w1]
  have hK1 : canon_Kind.f l = some (kindI l) := by unfold canon_Kind.f; rw [if_pos (okL_good hg15)]
  have hK2 : canon_Kind.f (l.set n (rd l (n : Int) + 1) ++ [rd l (n : Int) + 1]) = some (kindI (l.set n (rd l (n : Int) + 1) ++ [rd l (n : Int) + 1])) := by unfold canon_Kind.f; rw [if_pos hok2]
  rw [hW2, hK1, hK2]
  simp only [Option.bind_some]
  rw [w64_small (a := weighK l c l.length + rd c (n : Int)) (by omega) (by omega), alive_some]
  simp only [Option.bind_some, if_true]
  rcases hk with hk | ⟨hk1, hk2⟩
  · rw [if_pos hk]
  · by_cases e : kindI l = kindI (l.set n (rd l (n : Int) + 1) ++ [rd l (n : Int) + 1])
    · rw [if_pos e]
    · rw [if_neg e, if_pos hk1, if_pos hk2]
theorem CanonSplit : platenlaw05_CanonSplit.Pure := by
  intro l0 l1 a2 a3 _ _ h0 _ _ h1 h2 h3
  have g0 : ∀ x ∈ l0, 0 ≤ x ∧ x < 256 := fun x hx => wf_u8 (h0 x hx)
  have g1 : ∀ x ∈ l1, 0 ≤ x ∧ x < 65536 := fun x hx => wf_u16 (h1 x hx)
  have g2 := wf_u16 h2
  have g3 := wf_u16 h3
  refine ⟨l0.length + 50, ?_⟩
  have jt : platenlaw05_CanonSplit.j0 (l0.length + 50) l0 l1 a2 a3 true = some true := by
    show platenlaw05_CanonSplit.j0 (l0.length + 49 + 1) l0 l1 a2 a3 true = some true
    simp only [platenlaw05_CanonSplit.j0]
    rw [if_pos trivial, show l0.length + 49 = l0.length + 29 + 20 from rfl, alive_some]
    rfl
  unfold platenlaw05_CanonSplit.f
  by_cases c1 : (l0.length : Int) > 300
  · rw [if_pos c1, jt]
  rw [if_neg c1]
  by_cases c2 : (l0.length : Int) = 0
  · rw [if_pos c2, jt]
  rw [if_neg c2]
  by_cases c3 : (l1.length : Int) > 400
  · rw [decide_eq_true c3, jt]
  rw [decide_eq_false c3]
  have en : Int.tmod (wrap64 a2) (l0.length : Int) = ((a2 % (l0.length : Int)).toNat : Int) := by
    rw [w64_small (by omega) (by omega), Int.tmod_eq_emod_of_nonneg g2.1, Int.toNat_of_nonneg (Int.emod_nonneg _ c2)]
  have hn : (a2 % (l0.length : Int)).toNat < l0.length := by
    have := Int.emod_lt_of_pos a2 (show 0 < (l0.length : Int) by omega)
    have := Int.emod_nonneg a2 c2
    omega
  generalize (a2 % (l0.length : Int)).toNat = n at en hn
  have j1t : platenlaw05_CanonSplit.j1 (l0.length + 49) l0 l1 a3 (n : Int) true = some true := by
    show platenlaw05_CanonSplit.j1 (l0.length + 48 + 1) l0 l1 a3 (n : Int) true = some true
    simp only [platenlaw05_CanonSplit.j1]
    rw [if_pos trivial, show l0.length + 48 = l0.length + 28 + 20 from rfl, alive_some]
    rfl
  have hr := g0 _ (rd_mem l0 n hn)
  show platenlaw05_CanonSplit.j0 (l0.length + 49 + 1) l0 l1 a2 a3 false = some true
  simp only [platenlaw05_CanonSplit.j0]
  rw [if_neg (by simp), if_neg c2, en, if_pos (by omega), if_pos (by omega)]
  by_cases c4 : rd l0 (n : Int) = 0
  · rw [if_pos c4, j1t]
  rw [if_neg c4]
  by_cases c5 : rd l0 (n : Int) ≥ 15
  · rw [if_pos c5, j1t]
  rw [if_neg c5, show canon_Kind.f l0 = some (kindI l0) by unfold canon_Kind.f; rw [if_pos (okL_of h0)]]
  simp only [Option.bind_some]
  cases hg : good l0 with
  | false => rw [kind_bad5 l0 hg]; exact j1t
  | true =>
    rw [show (kindI l0 == 5) = false by rw [beq_eq_false_iff_ne]; exact kind_ne5 l0 hg]
    show platenlaw05_CanonSplit.j1 (l0.length + 48 + 1) l0 l1 a3 (n : Int) false = some true
    simp only [platenlaw05_CanonSplit.j1]
    rw [if_neg (by simp)]
    simp only [Option.bind_some, List.nil_append, List.length_nil]
    have eL : wrap64 ((l0.length : Int) + 1) = ((l0.length + 1 : Nat) : Int) := by rw [w64_small (by omega) (by omega)]; omega
    rw [if_pos (by omega), eL, Int.toNat_natCast, if_pos (by omega), if_pos (by omega)]
    have hz : List.replicate (l0.length + 1) (0 : Int) = cK l0.length l1 0 := by
      simp only [cK, Nat.not_lt_zero, if_false]
      rw [show (fun (_ : Nat) => (0 : Int)) = Function.const Nat 0 from rfl, List.map_const, List.length_range]
    rw [hz]
    have := split_l0 l0 l1 a3 n (by omega) g1 (by omega) (min l0.length l1.length) 0 (l0.length - min l0.length l1.length + 26 + 21) (by omega)
    rw [show l0.length - min l0.length l1.length + 26 + 21 + min l0.length l1.length + 1 = l0.length + 48 by omega] at this
    rw [show ((0 : Nat) : Int) = 0 from rfl] at this
    rw [this]
    exact split_j3 l0 _ a3 n _ hn (by omega) (cK_length _ _ _) hg (fun x hx => (g0 x hx).1) (by omega) (by omega) (fun i hi => by
      rw [cK_rd _ _ _ _ (by omega)]
      by_cases hi2 : i < min l0.length l1.length
      · rw [if_pos hi2]
        have := g1 _ (rd_mem l1 i (by omega))
        omega
      · rw [if_neg hi2]; omega) g3
end Go.Proofs.Ytogpjdiammecjaa.Pure
