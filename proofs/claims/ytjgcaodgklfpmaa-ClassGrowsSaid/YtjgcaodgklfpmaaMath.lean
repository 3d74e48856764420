/-
  Class: what fits in which class (plain mathematics).
-/
import Derived.Test.YtjgcaodgklfpmaaPCx1
import Derived.KernelRfl
set_option linter.unusedSimpArgs false
set_option linter.unusedVariables false
namespace Go.Proofs.Ytjgcaodgklfpmaa.Pure
open Go.RowKit Go.Proofs.Ytjgcaodgklfpmaa.PC Go.Proofs.YtjgcaodgklfpmaaW.PrintWords Go.Proofs.YtjgcaodgklfpmaaW.PrintLast

structure Pg (p u : Int) : Prop where
  page : mods_Page.f p = some true
  eq : p = 16 * u
  lo : 64 ≤ u
  hi : u ≤ 1024
theorem Pg.div {p u : Int} (h : Pg p u) : p / 16 = u := by have := h.eq; omega
theorem units_le (c : Int) : 0 ≤ unitsI c ∧ unitsI c ≤ 17 := by
  unfold unitsI
  repeat (first | omega | split)
theorem Pg.sz {p u : Int} (h : Pg p u) (c : Int) : szI c p = unitsI c * u := by
  unfold szI
  rw [h.div]
  obtain ⟨h1, h2⟩ := units_le c
  have h3 : 0 ≤ unitsI c * u := Int.mul_nonneg h1 (by have := h.lo; omega)
  have h4 : unitsI c * u ≤ 17 * 1024 := Int.mul_le_mul h2 h.hi (by have := h.lo; omega) (by omega)
  unfold wrap64
  omega
theorem Pg.size {p u : Int} (h : Pg p u) (c : Int) : class_Size.f c p = some (unitsI c * u) := by
  unfold class_Size.f
  rw [h.page, ← h.sz]
  rfl
theorem fit_cases {p u : Int} (h : Pg p u) (n : Int) (hn : 0 ≤ n) :
    (class_Fit.f n p = some (0, true) ∧ n ≤ u) ∨ (class_Fit.f n p = some (1, true) ∧ u < n ∧ n ≤ 2 * u) ∨ (class_Fit.f n p = some (2, true) ∧ 2 * u < n ∧ n ≤ 4 * u) ∨ (class_Fit.f n p = some (3, true) ∧ 4 * u < n ∧ n ≤ 8 * u) ∨
    (class_Fit.f n p = some (4, true) ∧ 8 * u < n ∧ n ≤ 16 * u) ∨ (class_Fit.f n p = some (5, true) ∧ 16 * u < n ∧ n ≤ 17 * u) ∨ (class_Fit.f n p = some (0, false) ∧ 17 * u < n) := by
  have e0 : szI 0 p = u := by rw [h.sz]; show 1 * u = u; omega
  have e1 : szI 1 p = 2 * u := by rw [h.sz]; rfl
  have e2 : szI 2 p = 4 * u := by rw [h.sz]; rfl
  have e3 : szI 3 p = 8 * u := by rw [h.sz]; rfl
  have e4 : szI 4 p = 16 * u := by rw [h.sz]; rfl
  have e5 : szI 5 p = 17 * u := by rw [h.sz]; rfl
  have hlo := h.lo
  unfold class_Fit.f
  rw [if_neg (by omega), if_pos h.page]
  unfold fitI
  rw [e0, e1, e2, e3, e4, e5]
  by_cases c0 : n ≤ u
  · rw [if_pos c0]; exact .inl ⟨rfl, c0⟩
  rw [if_neg c0]
  by_cases c1 : n ≤ 2 * u
  · rw [if_pos c1]; exact .inr (.inl ⟨rfl, by omega, c1⟩)
  rw [if_neg c1]
  by_cases c2 : n ≤ 4 * u
  · rw [if_pos c2]; exact .inr (.inr (.inl ⟨rfl, by omega, c2⟩))
  rw [if_neg c2]
  by_cases c3 : n ≤ 8 * u
  · rw [if_pos c3]; exact .inr (.inr (.inr (.inl ⟨rfl, by omega, c3⟩)))
  rw [if_neg c3]
  by_cases c4 : n ≤ 16 * u
  · rw [if_pos c4]; exact .inr (.inr (.inr (.inr (.inl ⟨rfl, by omega, c4⟩))))
  rw [if_neg c4]
  by_cases c5 : n ≤ 17 * u
  · rw [if_pos c5]; exact .inr (.inr (.inr (.inr (.inr (.inl ⟨rfl, by omega, c5⟩)))))
  rw [if_neg c5]
  exact .inr (.inr (.inr (.inr (.inr (.inr ⟨rfl, by omega⟩)))))
theorem spare_eq {p u : Int} (h : Pg p u) (k : Nat) (n m : Int) (hn : 0 ≤ n) (hn2 : n ≤ 32768) (hm : 0 ≤ m) (hm2 : m ≤ 32768) : class_Spare.f (k + 1) n m p = (class_Fit.f (n + m) p).bind fun q => if q.2 = true then some (q.1, true) else class_Fit.f n p := by
  have e0 : wrap64 (n + m) = n + m := by unfold wrap64; omega
  have hid : ((class_Fit.f n p).bind fun q => some (q.1, q.2)) = class_Fit.f n p := by cases class_Fit.f n p <;> rfl
  unfold class_Spare.f
  rw [if_pos (by omega)]
  by_cases h0 : m > 0
  · rw [if_pos h0, if_pos hm2]
    simp only [class_Spare.j0]
    rw [if_pos (by simpa using hn2), e0, hid]
  · rw [if_neg h0]
    simp only [class_Spare.j0]
    rw [hid]
    obtain rfl : m = 0 := by omega
    rw [Int.add_zero, if_neg (by simp)]
    rcases fit_cases h n hn with h | h | h | h | h | h | h <;> (rw [h.1]; rfl)
theorem pages (r : Int) (h0 : 0 ≤ r) (h : r < 5) : ∃ u, Pg (shl .i64 1024 r) u := by
  obtain h | h | h | h | h : r = 0 ∨ r = 1 ∨ r = 2 ∨ r = 3 ∨ r = 4 := by omega
  all_goals subst h
  · exact ⟨64, by kernel_rfl, by kernel_rfl, by omega, by omega⟩
  · exact ⟨128, by kernel_rfl, by kernel_rfl, by omega, by omega⟩
  · exact ⟨256, by kernel_rfl, by kernel_rfl, by omega, by omega⟩
  · exact ⟨512, by kernel_rfl, by kernel_rfl, by omega, by omega⟩
  · exact ⟨1024, by kernel_rfl, by kernel_rfl, by omega, by omega⟩
theorem alive_some (k : Nat) : platenlaw20_alive.f (k + 1) = some true := by kernel_rfl

theorem fit_spec {p u : Int} (h : Pg p u) (n : Int) (hn : 0 ≤ n) : ∃ c is, class_Fit.f n p = some (c, is) ∧ 0 ≤ c ∧ c < 6 ∧ (is = true ∧ n ≤ unitsI c * u ∧ (c = 0 ∨ unitsI (c - 1) * u < n) ∧ n ≤ 17 * u ∨ is = false ∧ c = 0 ∧ 17 * u < n) := by
  have hlo := h.lo
  rcases fit_cases h n hn with ⟨f, g⟩ | ⟨f, g⟩ | ⟨f, g⟩ | ⟨f, g⟩ | ⟨f, g⟩ | ⟨f, g⟩ | ⟨f, g⟩
  · exact ⟨_, _, f, by omega, by omega, .inl ⟨rfl, by rw [show unitsI 0 = 1 from rfl]; omega, .inl rfl, by omega⟩⟩
  · exact ⟨_, _, f, by omega, by omega, .inl ⟨rfl, by rw [show unitsI 1 = 2 from rfl]; omega, .inr (by rw [show unitsI (1 - 1) = 1 from rfl]; omega), by omega⟩⟩
  · exact ⟨_, _, f, by omega, by omega, .inl ⟨rfl, by rw [show unitsI 2 = 4 from rfl]; omega, .inr (by rw [show unitsI (2 - 1) = 2 from rfl]; omega), by omega⟩⟩
  · exact ⟨_, _, f, by omega, by omega, .inl ⟨rfl, by rw [show unitsI 3 = 8 from rfl]; omega, .inr (by rw [show unitsI (3 - 1) = 4 from rfl]; omega), by omega⟩⟩
  · exact ⟨_, _, f, by omega, by omega, .inl ⟨rfl, by rw [show unitsI 4 = 16 from rfl]; omega, .inr (by rw [show unitsI (4 - 1) = 8 from rfl]; omega), by omega⟩⟩
  · exact ⟨_, _, f, by omega, by omega, .inl ⟨rfl, by rw [show unitsI 5 = 17 from rfl]; omega, .inr (by rw [show unitsI (5 - 1) = 16 from rfl]; omega), by omega⟩⟩
  · exact ⟨_, _, f, by omega, by omega, .inr ⟨rfl, rfl, g⟩⟩
theorem units_mono (a b : Int) (h0 : 0 ≤ a) (hab : a ≤ b) (hb : b < 6) : unitsI a ≤ unitsI b := by
  obtain e | e | e | e | e | e : a = 0 ∨ a = 1 ∨ a = 2 ∨ a = 3 ∨ a = 4 ∨ a = 5 := by omega
  all_goals
    obtain e' | e' | e' | e' | e' | e' : b = 0 ∨ b = 1 ∨ b = 2 ∨ b = 3 ∨ b = 4 ∨ b = 5 := by omega
  all_goals
    subst e e'
    first | decide | (exfalso; omega)
theorem units_mono_mul {u : Int} (hu : 0 ≤ u) (a b : Int) (h0 : 0 ≤ a) (hab : a ≤ b) (hb : b < 6) : unitsI a * u ≤ unitsI b * u := Int.mul_le_mul_of_nonneg_right (units_mono a b h0 hab hb) hu
theorem spare_spec {p u : Int} (h : Pg p u) (k : Nat) (n m : Int) (hn : 0 ≤ n) (hn2 : n ≤ 32768) (hm : 0 ≤ m) (hm2 : m ≤ 32768) (c : Int) (is : Bool) (hf : class_Fit.f n p = some (c, is)) (hc : 0 ≤ c) (hc6 : c < 6)
    (hh : is = true ∧ n ≤ unitsI c * u ∧ (c = 0 ∨ unitsI (c - 1) * u < n) ∧ n ≤ 17 * u ∨ is = false ∧ c = 0 ∧ 17 * u < n) :
    ∃ d, class_Spare.f (k + 1) n m p = some (d, is) ∧ 0 ≤ d ∧ d < 6 ∧ c ≤ d ∧ (is = true → (n + m ≤ unitsI d * u ∧ n + m ≤ 17 * u ∧ (d = 0 ∨ unitsI (d - 1) * u < n + m)) ∨ d = c ∧ 17 * u < n + m) := by
  have hlo := h.lo
  rw [spare_eq h k n m hn hn2 hm hm2]
  obtain ⟨d, can, hg, hd, hd6, hq⟩ := fit_spec h (n + m) (by omega)
  rw [hg]
  simp only [Option.bind_some]
  rcases hq with ⟨rfl, q1, q2, q3⟩ | ⟨rfl, rfl, q1⟩
  · rcases hh with ⟨rfl, h1, h2, h3⟩ | ⟨rfl, rfl, h1⟩
    · refine ⟨d, rfl, hd, hd6, ?_, fun _ => .inl ⟨q1, q3, q2⟩⟩
      rcases h2 with h2 | h2
      · omega
      · rcases (show d < c ∨ c ≤ d by omega) with hlt | hge
        · have := units_mono_mul (u := u) (by omega) d (c - 1) hd (by omega) (by omega)
          omega
        · exact hge
    · exfalso; omega
  · refine ⟨c, by rw [if_neg (by simp)]; exact hf, hc, hc6, Int.le_refl _, fun _ => .inr ⟨rfl, q1⟩⟩
theorem wf_u16 {a : Int} (h : (Lit.int .u16 a).wf = true) : 0 ≤ a ∧ a < 65536 := by
  simp [Lit.wf, IntKind.min, IntKind.max, IntKind.signed, IntKind.bits] at h
  omega
theorem wf_u8 {a : Int} (h : (Lit.int .u8 a).wf = true) : 0 ≤ a ∧ a < 256 := by
  simp [Lit.wf, IntKind.min, IntKind.max, IntKind.signed, IntKind.bits] at h
  omega
theorem w64_of {a : Int} (h : 0 ≤ a ∧ a < 65536) : wrap64 a = a := by unfold wrap64; omega
theorem tmod_of {a b : Int} (h : 0 ≤ a) : Int.tmod a b = a % b := Int.tmod_eq_emod_of_nonneg h
theorem u64_of {a : Int} (h : 0 ≤ a ∧ a < 65536) : IntKind.u64.wrap a = a := by
  unfold IntKind.wrap
  simp [IntKind.bits, IntKind.signed]
  omega
end Go.Proofs.Ytjgcaodgklfpmaa.Pure
