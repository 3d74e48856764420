-- WRITTEN BY A PROGRAM of this repo (wip/tools/given.py), which drives the kit's print over functions that are given by hand. Lean checks it.
import Derived.Test.YtipcdbfohgeipaaPCx0
namespace Go.Proofs.Ytipcdbfohgeipaa.PC
open Go.RowKit Go.Proofs.YtipcdbfohgeipaaW.PrintWords Go.Proofs.YtipcdbfohgeipaaW.PrintLast Go.Proofs.YtipcdbfohgeipaaW.PrintMore
attribute [local go_sem] max2_int min2_int max_two min_two max_three min_three max_four min_four   -- for this text's walks alone
set_option linter.unusedVariables false
set_option linter.unusedSimpArgs false

/-! ### platenlaw09_heavy: function 8 -/
def platenlaw09_heavy.f (a0 : ByteArray) (l1 : List (S24)) : Option (Bool) := if (a0.size : Int) > 8192 then (some true) else (some (decide ((l1.length : Int) > 1000)))
set_option maxHeartbeats 8000000 in
set_option maxRecDepth 100000 in
theorem platenlaw09_heavy.calls (a0 : ByteArray) (A1 : Option Addr) (c1 : Nat) (l1 : List (S24)) (r : Bool) (w : World) (hr1 : Kd.C k24 w A1 l1.length l1) (hc1 : l1.length ≤ c1) (h : platenlaw09_heavy.f a0 l1 = some r) :
    Calls Try.prog 8 #[.string a0, .slice A1 l1.length c1] w fun e w' => e = .returned (.bool r) ∧ Drawn0 w w' := by
  have HR1 := Aside0.mk hr1
  have HC1 := Aside0.mk hc1
  clear hr1 hc1
  have H : (if (a0.size : Int) > 8192 then (some true) else (some (decide ((l1.length : Int) > 1000)))) = some r := h
  clear h
  by_cases c3 : (a0.size : Int) > 8192
  · rw [if_pos c3] at H
    have c3b0 : decide (8192 < (a0.size : Int)) = true := decide_eq_true c3
    have c3b1 : decide (8192 < a0.size) = true := decide_eq_true (by omega)
    clear c3
    obtain rfl := Option.some.inj H
    go_enter Try.func8, Try.ntmps8
    go_wp2
    go_ret
    exact ⟨by first | rfl | (simp; done) | (simp [*]; done), by repeat (first | exact Drawn0.refl _ | apply Drawn0.step)⟩
  · rw [if_neg c3] at H
    have c3b0 : decide (8192 < (a0.size : Int)) = false := decide_eq_false c3
    have c3b1 : decide (8192 < a0.size) = false := decide_eq_false (by omega)
    clear c3
    obtain rfl := Option.some.inj H
    go_enter Try.func8, Try.ntmps8
    go_wp2
    go_ret
    exact ⟨by first | rfl | (simp; done) | (simp [*]; done), by repeat (first | exact Drawn0.refl _ | apply Drawn0.step)⟩

end Go.Proofs.Ytipcdbfohgeipaa.PC
