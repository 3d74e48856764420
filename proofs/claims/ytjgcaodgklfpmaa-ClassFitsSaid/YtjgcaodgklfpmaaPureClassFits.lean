/-
  ClassFits: for every size of a page, and every two numbers, the law answers true.
-/
import Derived.Test.YtjgcaodgklfpmaaPCx2
import Derived.Test.YtjgcaodgklfpmaaMath
set_option linter.unusedSimpArgs false
set_option linter.unusedVariables false
namespace Go.Proofs.Ytjgcaodgklfpmaa.Pure
open Go.RowKit Go.Proofs.Ytjgcaodgklfpmaa.PC Go.Proofs.YtjgcaodgklfpmaaW.PrintWords Go.Proofs.YtjgcaodgklfpmaaW.PrintLast

theorem l0_step {p u : Int} (h : Pg p u) (k : Nat) (n m c : Int) (is : Bool) (d i : Int) (h0 : 0 ≤ i) (h5 : i < 6) :
    platenlaw20_ClassFits.l0 (k + 1) p n m c is d i = platenlaw20_ClassFits.l0 k p n m c is d (i + 1) := by
  have hlo := h.lo
  have hhi := h.hi
  have e16 : wrap64 (Int.tdiv p 16) = u := by
    rw [Int.tdiv_eq_ediv_of_nonneg (by have := h.eq; omega), h.div]
    unfold wrap64; omega
  have hs := h.size
  have w1 : ∀ x : Int, 0 ≤ x → x ≤ 100000 → wrap64 x = x := fun x _ _ => by unfold wrap64; omega
  simp only [platenlaw20_ClassFits.l0]
  rw [if_pos h5, hs, e16]
  simp only [Option.bind_some, class_Units.f, class_Slots.f]
  obtain e | e | e | e | e | e : i = 0 ∨ i = 1 ∨ i = 2 ∨ i = 3 ∨ i = 4 ∨ i = 5 := by omega
  all_goals
    subst e
    simp only [show unitsI 0 = 1 from rfl, show unitsI 1 = 2 from rfl, show unitsI 2 = 4 from rfl, show unitsI 3 = 8 from rfl, show unitsI 4 = 16 from rfl, show unitsI 5 = 17 from rfl, show slotsI 0 = 64 from rfl, show slotsI 1 = 32 from rfl, show slotsI 2 = 16 from rfl, show slotsI 3 = 8 from rfl, show slotsI 4 = 4 from rfl, show slotsI 5 = 3 from rfl]
    rw [w1 _ (by omega) (by omega), if_pos rfl, if_neg (by decide +kernel), if_neg (by decide +kernel), w1 (_ + 1) (by omega) (by omega)]
  · rw [if_neg (by omega)]
  all_goals
    rw [if_pos (by omega), hs]
    simp only [Option.bind_some]
    rw [if_neg (by simp only [show wrap64 (1 - 1) = 0 by decide +kernel, show wrap64 (2 - 1) = 1 by decide +kernel, show wrap64 (3 - 1) = 2 by decide +kernel, show wrap64 (4 - 1) = 3 by decide +kernel, show wrap64 (5 - 1) = 4 by decide +kernel, show unitsI 0 = 1 from rfl, show unitsI 1 = 2 from rfl, show unitsI 2 = 4 from rfl, show unitsI 3 = 8 from rfl, show unitsI 4 = 16 from rfl, show unitsI 5 = 17 from rfl]; omega)]
theorem l0_all {p u : Int} (h : Pg p u) (k : Nat) (n m c : Int) (is : Bool) (d : Int) :
    platenlaw20_ClassFits.l0 (k + 6) p n m c is d 0 = platenlaw20_ClassFits.l0 k p n m c is d 6 := by
  rw [l0_step h (k + 5) n m c is d 0 (by omega) (by omega), l0_step h (k + 4) n m c is d _ (by omega) (by omega), l0_step h (k + 3) n m c is d _ (by omega) (by omega), l0_step h (k + 2) n m c is d _ (by omega) (by omega), l0_step h (k + 1) n m c is d _ (by omega) (by omega), l0_step h k n m c is d _ (by omega) (by omega)]
  rfl
/-- what is asked behind the loop -/
theorem l0_end {p u : Int} (h : Pg p u) (k : Nat) (n m c : Int) (is : Bool) (d : Int) (hn : 0 ≤ n) (hn2 : n < 18000) (hm : 0 ≤ m) (hm2 : m < 3000) (hd : 0 ≤ d) (hd6 : d < 6)
    (hok : is = false ∨ (m ≤ unitsI d * u - n ∨ d = c ∧ 17 * u < n + m) ∧ (d = 0 ∨ d = c ∨ unitsI (d - 1) * u - n < m)) :
    platenlaw20_ClassFits.l0 (k + 2) p n m c is d 6 = some true := by
  have hlo := h.lo
  have hhi := h.hi
  have hs := h.size
  have w1 : ∀ x : Int, -100000 ≤ x → x ≤ 100000 → wrap64 x = x := fun x _ _ => by unfold wrap64; omega
  have hu : ∀ x, 0 ≤ unitsI x * u ∧ unitsI x * u ≤ 17 * 1024 := fun x => by
    obtain ⟨h1, h2⟩ := units_le x
    exact ⟨Int.mul_nonneg h1 (by omega), Int.mul_le_mul h2 hhi (by omega) (by omega)⟩
  simp only [platenlaw20_ClassFits.l0]
  rw [if_neg (by omega), alive_some]
  simp only [Option.bind_some]
  cases is with
  | false => rfl
  | true =>
    rw [if_pos rfl, hs]
    simp only [Option.bind_some]
    have hh := hok.resolve_left (by simp)
    have q1 := hu d
    have q2 := hu (d - 1)
    rw [w1 (unitsI d * u - n) (by omega) (by omega)]
    by_cases c1 : m ≤ unitsI d * u - n
    · rw [if_pos c1]
      by_cases c2 : d = 0
      · rw [if_pos c2]
      · rw [if_neg c2]
        by_cases c3 : d = c
        · rw [if_pos c3]
        · rw [if_neg c3, hs, w1 (d - 1) (by omega) (by omega)]
          simp only [Option.bind_some]
          rw [w1 _ (by omega) (by omega), if_pos ((hh.2.resolve_left c2).resolve_left c3)]
    · rw [if_neg c1]
      obtain ⟨h1, h2⟩ := hh.1.resolve_left c1
      rw [if_pos h1, hs]
      simp only [Option.bind_some]
      rw [w1 _ (by omega) (by omega), if_pos (show n + m > unitsI 5 * u from h2)]
      by_cases c2 : d = 0
      · rw [if_pos c2]
      · rw [if_neg c2]
theorem fits_at {p u : Int} (h : Pg p u) (n m : Int) (hn : 0 ≤ n) (hn2 : n < 18000) (hm : 0 ≤ m) (hm2 : m < 3000) (r a1 a2 : Int) (e1 : Int.tmod (wrap64 a1) 18000 = n) (e2 : Int.tmod (wrap64 a2) 3000 = m) (a0 : Int) (e0 : IntKind.u64.wrap (Int.tmod a0 5) = r) (er : shl .i64 1024 r = p) (hr : 0 ≤ r) :
    platenlaw20_ClassFits.f 20 a0 a1 a2 = some true := by
  have hlo := h.lo
  have hhi := h.hi
  have hs := h.size
  have w1 : ∀ x : Int, -100000 ≤ x → x ≤ 100000 → wrap64 x = x := fun x _ _ => by unfold wrap64; omega
  obtain ⟨c, is, hf, hc, hc6, hh⟩ := fit_spec h n hn
  obtain ⟨d, hsp, hd, hd6, hcd, hq⟩ := spare_spec h 19 n m hn (by omega) hm (by omega) c is hf hc hc6 hh
  have fin : platenlaw20_ClassFits.j0 20 p n m c is d false = some true := by
    show platenlaw20_ClassFits.l0 19 p n m c is d 0 = some true
    rw [l0_all h 13]
    refine l0_end h 11 n m c is d hn hn2 hm hm2 hd hd6 ?_
    cases is with
    | false => exact .inl rfl
    | true =>
      refine .inr ?_
      rcases hq rfl with ⟨q1, q2, q3⟩ | ⟨q1, q2⟩
      · exact ⟨.inl (by omega), by rcases q3 with q3 | q3; exact .inl q3; exact .inr (.inr (by omega))⟩
      · exact ⟨.inr ⟨q1, q2⟩, .inr (.inl q1)⟩
  have hdc : decide (d < c) = false := by rw [decide_eq_false_iff_not]; omega
  unfold platenlaw20_ClassFits.f
  rw [e0, er, e1, e2, if_pos hr, hsp, hs, hf]
  simp only [Option.bind_some]
  rw [show unitsI 5 = 17 from rfl, hdc]
  rcases hh with ⟨rfl, h1, h2, h3⟩ | ⟨rfl, rfl, h1⟩
  · rw [if_neg (by simp; omega), if_neg (by simp), if_pos rfl, hs]
    simp only [Option.bind_some]
    rw [if_neg (by omega), fin]
    by_cases c0 : c > 0
    · rw [if_pos c0, w1 (c - 1) (by omega) (by omega), hs]
      simp only [Option.bind_some]
      rw [if_neg (by omega)]
    · rw [if_neg c0]
  · rw [if_neg (by simp; omega), if_neg (by simp), if_neg (by simp), fin]
theorem ClassFits : platenlaw20_ClassFits.Pure := by
  intro a0 a1 a2 h0 h1 h2
  have h0 := wf_u8 h0
  have h1 := wf_u16 h1
  have h2 := wf_u16 h2
  obtain ⟨u, hu⟩ := pages (a0 % 5) (by omega) (by omega)
  exact ⟨20, fits_at hu (a1 % 18000) (a2 % 3000) (by omega) (by omega) (by omega) (by omega) (a0 % 5) a1 a2 (by rw [w64_of h1, tmod_of h1.1]) (by rw [w64_of h2, tmod_of h2.1]) a0 (by rw [tmod_of h0.1, u64_of (by omega)]) rfl (by omega)⟩
end Go.Proofs.Ytjgcaodgklfpmaa.Pure
