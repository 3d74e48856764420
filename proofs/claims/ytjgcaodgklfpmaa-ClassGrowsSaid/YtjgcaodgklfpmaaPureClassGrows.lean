/-
  ClassGrows: for every two numbers, two spare rooms and every size of a page, the law answers true.
-/
import Derived.Test.YtjgcaodgklfpmaaPCx3
import Derived.Test.YtjgcaodgklfpmaaMath
set_option linter.unusedSimpArgs false
set_option linter.unusedVariables false
namespace Go.Proofs.Ytjgcaodgklfpmaa.Pure
open Go.RowKit Go.Proofs.Ytjgcaodgklfpmaa.PC Go.Proofs.YtjgcaodgklfpmaaW.PrintWords Go.Proofs.YtjgcaodgklfpmaaW.PrintLast


theorem spare_wide {p u : Int} (h : Pg p u) (k : Nat) (n m : Int) (hn : 0 ≤ n) (hn2 : n ≤ 32768) (hm : 0 ≤ m) (c : Int) (is : Bool) (hf : class_Fit.f n p = some (c, is)) (hc : 0 ≤ c) (hc6 : c < 6)
    (hh : is = true ∧ n ≤ unitsI c * u ∧ (c = 0 ∨ unitsI (c - 1) * u < n) ∧ n ≤ 17 * u ∨ is = false ∧ c = 0 ∧ 17 * u < n) :
    ∃ d, class_Spare.f (k + 1) n m p = some (d, is) ∧ 0 ≤ d ∧ d < 6 ∧ (is = true → (n + m ≤ unitsI d * u ∧ n + m ≤ 17 * u ∧ (d = 0 ∨ unitsI (d - 1) * u < n + m)) ∨ d = c ∧ 17 * u < n + m) := by
  by_cases hm2 : m ≤ 32768
  · obtain ⟨d, h1, h2, h3, _, h5⟩ := spare_spec h k n m hn hn2 hm hm2 c is hf hc hc6 hh
    exact ⟨d, h1, h2, h3, h5⟩
  · have hhi := h.hi
    refine ⟨c, ?_, hc, hc6, fun _ => .inr ⟨rfl, by omega⟩⟩
    unfold class_Spare.f
    rw [if_pos (by omega), if_pos (by omega), if_neg hm2]
    simp only [class_Spare.j0]
    rw [if_neg (by simp), hf]
    rfl
theorem grows_l0 {p u : Int} (h : Pg p u) (h2 : Pg (2 * p) (2 * u)) (k : Nat) (i : Int) (h0 : 0 ≤ i) (h5 : i < 6) : platenlaw20_ClassGrows.l0 (k + 1) p i = platenlaw20_ClassGrows.l0 k p (i + 1) := by
  have hlo := h.lo
  have hhi := h.hi
  have he := h.eq
  have e2 : wrap64 (2 * p) = 2 * p := by unfold wrap64; omega
  have hu : 0 ≤ unitsI i * u ∧ unitsI i * u ≤ 17 * 1024 := by
    obtain ⟨h1, h2⟩ := units_le i
    exact ⟨Int.mul_nonneg h1 (by omega), Int.mul_le_mul h2 hhi (by omega) (by omega)⟩
  have e3 : wrap64 (2 * (unitsI i * u)) = 2 * (unitsI i * u) := by unfold wrap64; omega
  have e4 : wrap64 (i + 1) = i + 1 := by unfold wrap64; omega
  simp only [platenlaw20_ClassGrows.l0]
  rw [if_pos h5, e2, h2.size, h.size]
  simp only [Option.bind_some]
  rw [e3, e4, if_pos (by rw [Int.mul_left_comm])]
theorem grows_j1 {p u : Int} (h : Pg p u) (h2 : Pg (2 * p) (2 * u)) : platenlaw20_ClassGrows.j1 19 p false = some true := by
  show platenlaw20_ClassGrows.l0 18 p 0 = some true
  rw [grows_l0 h h2 17 0 (by omega) (by omega), grows_l0 h h2 16 _ (by omega) (by omega), grows_l0 h h2 15 _ (by omega) (by omega), grows_l0 h h2 14 _ (by omega) (by omega), grows_l0 h h2 13 _ (by omega) (by omega), grows_l0 h h2 12 _ (by omega) (by omega)]
  show platenlaw20_ClassGrows.l0 12 p 6 = some true
  simp only [platenlaw20_ClassGrows.l0]
  rw [if_neg (by omega), alive_some]
  rfl
theorem grows_j0 {p u : Int} (h : Pg p u) (h2 : Pg (2 * p) (2 * u)) (n x y : Int) (hn : 0 ≤ n) (hn2 : n < 18000) (hx : 0 ≤ x) (hx2 : x < 65536) (hy : 0 ≤ y) (hy2 : y < 65536) : platenlaw20_ClassGrows.j0 20 x y p n false = some true := by
  have hlo := h.lo
  have hhi := h.hi
  have w1 : ∀ x : Int, -100000 ≤ x → x ≤ 100000 → wrap64 x = x := fun x _ _ => by unfold wrap64; omega
  have hj := grows_j1 h h2
  obtain ⟨c, is, hf, hc, hc6, hh⟩ := fit_spec h n hn
  have hmn : 0 ≤ mn x y ∧ mn x y ≤ mx x y ∧ mx x y < 65536 := by unfold mn mx; omega
  obtain ⟨a, b, d⟩ := hmn
  simp only [platenlaw20_ClassGrows.j0]
  rw [if_neg (by simp)]
  generalize mn x y = s at a b
  generalize mx x y = t at b d
  obtain ⟨d1, s1, q1, r1, z1⟩ := spare_wide h 18 n s hn (by omega) a c is hf hc hc6 hh
  obtain ⟨d2, s2, q2, r2, z2⟩ := spare_wide h 18 n t hn (by omega) (by omega) c is hf hc hc6 hh
  have em : wrap64 s = s := w1 s (by omega) (by omega)
  have et : wrap64 t = t := w1 t (by omega) (by omega)
  have ent : wrap64 (n + t) = n + t := w1 _ (by omega) (by omega)
  rw [em, et, ent, s1, s2]
  simp only [Option.bind_some]
  rw [if_neg (by simp)]
  cases is with
  | false => rw [if_neg (by simp), hj]
  | true =>
    rw [if_pos rfl]
    by_cases hgt : d1 > d2
    · rw [if_pos hgt, h.size]
      simp only [Option.bind_some]
      rw [show unitsI 5 = 17 from rfl]
      have : ¬ n + t ≤ 17 * u := by
        intro hle
        rcases z2 rfl with ⟨g1, g2, g3⟩ | ⟨g1, g2⟩
        · rcases z1 rfl with ⟨k1, k2, k3⟩ | ⟨k1, k2⟩
          · rcases k3 with k3 | k3
            · omega
            · have := units_mono_mul (u := u) (by omega) d2 (d1 - 1) q2 (by omega) (by omega)
              omega
          · omega
        · omega
      rw [decide_eq_false this, hj]
    · rw [if_neg hgt, hj]
theorem pages2 (r : Int) (h0 : 0 ≤ r) (h : r < 4) : ∃ u, Pg (shl .i64 1024 r) u ∧ Pg (2 * shl .i64 1024 r) (2 * u) := by
  obtain h | h | h | h : r = 0 ∨ r = 1 ∨ r = 2 ∨ r = 3 := by omega
  all_goals subst h
  · exact ⟨64, ⟨by kernel_rfl, by kernel_rfl, by omega, by omega⟩, ⟨by kernel_rfl, by kernel_rfl, by omega, by omega⟩⟩
  · exact ⟨128, ⟨by kernel_rfl, by kernel_rfl, by omega, by omega⟩, ⟨by kernel_rfl, by kernel_rfl, by omega, by omega⟩⟩
  · exact ⟨256, ⟨by kernel_rfl, by kernel_rfl, by omega, by omega⟩, ⟨by kernel_rfl, by kernel_rfl, by omega, by omega⟩⟩
  · exact ⟨512, ⟨by kernel_rfl, by kernel_rfl, by omega, by omega⟩, ⟨by kernel_rfl, by kernel_rfl, by omega, by omega⟩⟩
theorem ClassGrows : platenlaw20_ClassGrows.Pure := by
  intro a0 a1 a2 a3 a4 h0 h1 h2 h3 h4
  have h0 := wf_u16 h0
  have h1 := wf_u16 h1
  have h2 := wf_u16 h2
  have h3 := wf_u16 h3
  have h4 := wf_u8 h4
  obtain ⟨u, hu, hu2⟩ := pages2 (a4 % 4) (by omega) (by omega)
  have hlo := hu.lo
  refine ⟨20, ?_⟩
  have hj := fun n (hn : 0 ≤ n) (hn2 : n < 18000) => grows_j0 hu hu2 n a2 a3 hn hn2 h2.1 h2.2 h3.1 h3.2
  unfold platenlaw20_ClassGrows.f
  have hmn : 0 ≤ mn a0 a1 ∧ mn a0 a1 < 65536 := by unfold mn; omega
  have hmx : 0 ≤ mx a0 a1 ∧ mx a0 a1 < 65536 := by unfold mx; omega
  rw [tmod_of h4.1, u64_of (by omega), if_pos (by omega), w64_of hmn, w64_of hmx, tmod_of hmn.1]
  generalize hn : mn a0 a1 % 18000 = n
  have hn0 : 0 ≤ n ∧ n < 18000 := by omega
  obtain ⟨c, is, hf, hc, hc6, hh⟩ := fit_spec hu n hn0.1
  have hle : n ≤ mx n (mx a0 a1) := by unfold mx; omega
  obtain ⟨d, as_, hg, hd, hd6, hq⟩ := fit_spec hu (mx n (mx a0 a1)) (by omega)
  rw [hf, hg]
  simp only [Option.bind_some]
  rcases hq with ⟨rfl, q1, q2, q3⟩ | ⟨rfl, q1, q2⟩
  · rw [if_pos rfl]
    rcases hh with ⟨rfl, k1, k2, k3⟩ | ⟨rfl, k1, k2⟩
    · rw [if_pos rfl]
      have : ¬ c > d := by
        intro hgt
        rcases k2 with k2 | k2
        · omega
        · have := units_mono_mul (u := u) (by omega) d (c - 1) hd (by omega) (by omega)
          omega
      rw [decide_eq_false this, hj n hn0.1 hn0.2]
    · exfalso; omega
  · rw [if_neg (by simp), hj n hn0.1 hn0.2]
end Go.Proofs.Ytjgcaodgklfpmaa.Pure
