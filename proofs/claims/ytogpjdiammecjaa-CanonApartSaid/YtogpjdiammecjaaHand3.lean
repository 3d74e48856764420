/-
  Canon: what 'Weigh' comes to (a contract, by hand).
-/
import Derived.Test.YtogpjdiammecjaaHand2
set_option linter.unusedSimpArgs false
set_option linter.unusedVariables false
namespace Go.Proofs.Ytogpjdiammecjaa
open Go.RowKit Go.Proofs.YtogpjdiammecjaaW.PrintWords

/-- what the first k symbols weigh -/
def weighK (l c : List Int) : Nat → Int
  | 0 => 0
  | k + 1 => wrap64 (weighK l c k + wrap64 (rd l (k : Int) * (if rd c (k : Int) < 0 then 0 else rd c (k : Int))))
theorem slice_to (l0 : List Int) (A : Option Addr) (c n : Nat) (hn : n ≤ l0.length) (hc : l0.length ≤ c) (W : World) :
    (Instr.slice 22 (.slice A l0.length c) none (some (.int .i64 (n : Nat))) none).run Try.prog W = .ok (.slice A n c) W := by
  have i5 : (Try.prog.info? 5).map (fun i => (i.zero, i.size, i.bytes)) = some (some (.int .u8 0), 1, 1) := by kernel_rfl
  obtain ⟨i0, hi0, _, hsz, _⟩ := info_parts i5
  have := (print_take_of (P := Try.prog) (Value.int .u8) 0 22 5 .i64 Try.underlying22 hi0 hsz A c l0 (n : Int) (by omega) (by omega) hc).1 W
  rw [this, Int.toNat_natCast, List.length_take, Nat.min_eq_left hn]
theorem weigh_loop (l0 l1 : List Int) (A0 A1 : Option Addr) (c0 c1 n : Nat) (w : World) (hr0 : ReadsInt w .u8 A0 l0.length l0) (hr1 : ReadsInt w .i64 A1 l1.length l1) (hc0 : l0.length ≤ c0) (hb : ∀ x ∈ l0, 0 ≤ x ∧ x < 256)
    (hn0 : n ≤ l0.length) (hn1 : n ≤ l1.length) (hmin : (l1.length < l0.length ∧ n = l1.length) ∨ (¬ l1.length < l0.length ∧ n = l0.length)) :
    Calls Try.prog 13 #[.slice A0 l0.length c0, .slice A1 l1.length c1] w fun e w' => e = .returned (.int .i64 (weighK l0 l1 n)) ∧ Below w.heap.size w w' := by
  have hs := slice_to l0 A0 c0 n hn0 hc0
  have h63 : l0.length ≤ 9223372036854775807 := hr0.2.1
  have HR0 := Lib.hid hr0
  have HR1 := Lib.hid hr1
  have HB := Lib.hid hb
  have H63 := Lib.hid h63
  have HN0 := Lib.hid hn0
  have HN1 := Lib.hid hn1
  have hmn : (if (l1.length : Int) < (l0.length : Int) then (l1.length : Int) else (l0.length : Int)) = (n : Int) := by
    rcases hmin with ⟨h, e⟩ | ⟨h, e⟩
    · rw [if_pos (by omega), e]
    · rw [if_neg (by omega), e]
  have hmn2 : (if l1.length < l0.length then (l1.length : Int) else (l0.length : Int)) = (n : Int) := by
    rcases hmin with ⟨h, e⟩ | ⟨h, e⟩
    · rw [if_pos h, e]
    · rw [if_neg h, e]
  clear hmin hr0 hr1 hb h63 hn0 hn1 hc0
  go_enter Try.func13, Try.ntmps13
  go_wp2_with fail
  go_loopg [4, 15] n (fun g s4 s15 wx => ∃ k : Nat, k + g = n ∧ s4 = .int .i64 (weighK l0 l1 k) ∧ s15 = .int .i64 k ∧ w = wx)
  case atStart => exact ⟨0, by omega, rfl, rfl, rfl⟩
  case round =>
    obtain ⟨k, hkg, rfl, rfl, rfl⟩ := hrel
    cases gk with
    | zero =>
      have d1 : decide (k < n) = false := by rw [decide_eq_false_iff_not]; omega
      have d2 : decide ((k : Int) < (n : Int)) = false := by rw [decide_eq_false_iff_not]; omega
      have hk : Hid (k = n) := Lib.hid (by omega)
      clear hkg
      go_wp2_with fail
      go_ret
      exact ⟨by rw [hk.out]; rfl, Below.refl _ _⟩
    | succ g =>
      have hk : k < n := by omega
      have hk0 : k < l0.length := Nat.lt_of_lt_of_le hk HN0.out
      have hk1 : k < l1.length := Nat.lt_of_lt_of_le hk HN1.out
      have d1 : decide (k < n) = true := by rw [decide_eq_true_eq]; omega
      have d2 : decide ((k : Int) < (n : Int)) = true := by rw [decide_eq_true_eq]; omega
      have e2 : wrap64 ((k : Int) + 1) = (k : Int) + 1 := by have := H63.out; unfold wrap64; omega
      obtain ⟨a0, e, hx0⟩ := ReadsInt.at_ HR0.out (k : Int) (by omega) (by omega)
      cases e
      rw [Int.toNat_natCast] at hx0
      obtain ⟨a1, e, hx1⟩ := ReadsInt.at_ HR1.out (k : Int) (by omega) (by omega)
      cases e
      rw [Int.toNat_natCast] at hx1
      obtain ⟨h0, h1⟩ := HB.out (rd l0 (k : Int)) (by simp [rd, hk0])
      have e3 : wrap64 (rd l0 (k : Int)) = rd l0 (k : Int) := by unfold wrap64; omega
      have hg := Lib.hid hkg
      have hw : Hid (weighK l0 l1 (k + 1) = wrap64 (weighK l0 l1 k + wrap64 (rd l0 (k : Int) * (if rd l1 (k : Int) < 0 then 0 else rd l1 (k : Int))))) := Lib.hid rfl
      clear hkg h0 h1
      generalize rd l0 (k : Int) = x at *
      generalize rd l1 (k : Int) = y at *
      generalize weighK l0 l1 k = z at *
      by_cases hy : y < 0
      · have dy : decide (y < 0) = true := by rw [decide_eq_true_eq]; exact hy
        rw [if_pos hy] at hw
        go_wp2_with fail
        go_roundg g
        case measure => omega
        case rel => exact ⟨k + 1, by have := hg.out; omega, by first | (rw [hw.out]; done) | (rw [hw.out]; rfl) | (rw [hw.out]; simp [show wrap64 0 = 0 by decide +kernel]), by go_num, rfl⟩
      · have dy : decide (y < 0) = false := by rw [decide_eq_false_iff_not]; exact hy
        rw [if_neg hy] at hw
        go_wp2_with fail
        go_roundg g
        case measure => omega
        case rel => exact ⟨k + 1, by have := hg.out; omega, by first | (rw [hw.out]; done) | (rw [hw.out]; rfl) | (rw [hw.out]; simp [show wrap64 0 = 0 by decide +kernel]), by go_num, rfl⟩
theorem weigh_any (l0 l1 : List Int) (A0 A1 : Option Addr) (c0 c1 : Nat) (w : World) (hr0 : ReadsInt w .u8 A0 l0.length l0) (hr1 : ReadsInt w .i64 A1 l1.length l1) (hc0 : l0.length ≤ c0) (hb : ∀ x ∈ l0, 0 ≤ x ∧ x < 256) :
    Calls Try.prog 13 #[.slice A0 l0.length c0, .slice A1 l1.length c1] w fun e w' => e = .returned (.int .i64 (weighK l0 l1 (min l0.length l1.length))) ∧ Below w.heap.size w w' := by
  by_cases h : l1.length < l0.length
  · rw [Nat.min_eq_right (by omega)]
    exact weigh_loop l0 l1 A0 A1 c0 c1 l1.length w hr0 hr1 hc0 hb (by omega) (by omega) (.inl ⟨h, rfl⟩)
  · rw [Nat.min_eq_left (by omega)]
    exact weigh_loop l0 l1 A0 A1 c0 c1 l0.length w hr0 hr1 hc0 hb (by omega) (by omega) (.inr ⟨h, rfl⟩)
end Go.Proofs.Ytogpjdiammecjaa
