-- WRITTEN BY A PROGRAM of this repo (wip/tools/given.py), which drives the kit's print over functions that are given by hand. Lean checks it.
import Derived.Test.YtkoohabljjbliaaPCx0
namespace Go.Proofs.Ytkoohabljjbliaa.PC
open Go.RowKit Go.Proofs.YtkoohabljjbliaaW.PrintWords Go.Proofs.YtkoohabljjbliaaW.PrintLast Go.Proofs.YtkoohabljjbliaaW.PrintMore
attribute [local go_sem] max2_int min2_int max_two min_two max_three min_three max_four min_four   -- for this text's walks alone
set_option linter.unusedVariables false
set_option linter.unusedSimpArgs false


/-! ### runs_Times: function 13, given by hand -/

def runs_Times.f (a0_0 : Int) (a0_1 : Int) : Option (Int × Bool) := if 0 ≤ a0_0 ∧ a0_0 < 256 ∧ 0 ≤ a0_1 ∧ a0_1 < 256 then some (timesI a0_0 a0_1) else none
theorem runs_Times.calls (a0_0 : Int) (a0_1 : Int) (r1 : Int) (r2 : Bool) (w : World) (h : runs_Times.f a0_0 a0_1 = some (r1, r2)) :
    Calls Try.prog 13 #[.agg #[.int .u8 a0_0, .int .u8 a0_1]] w fun e w' => e = .returned (.tuple #[.int .i64 r1, .bool r2]) ∧ Below w.heap.size w w' := by
  unfold runs_Times.f at h
  by_cases h0 : 0 ≤ a0_0 ∧ a0_0 < 256 ∧ 0 ≤ a0_1 ∧ a0_1 < 256
  · rw [if_pos h0] at h
    have e := Option.some.inj h
    have hb := times_any a0_0 a0_1 h0.1 h0.2.1 h0.2.2.1 h0.2.2.2 w
    unfold timesPost at hb
    rw [e] at hb
    exact hb
  · rw [if_neg h0] at h; cases h


end Go.Proofs.Ytkoohabljjbliaa.PC
