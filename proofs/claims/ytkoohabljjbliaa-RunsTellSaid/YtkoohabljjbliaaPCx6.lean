-- WRITTEN BY A PROGRAM of this repo (wip/tools/given.py), which drives the kit's print over functions that are given by hand. Lean checks it.
import Derived.Test.YtkoohabljjbliaaPCx0
namespace Go.Proofs.Ytkoohabljjbliaa.PC
open Go.RowKit Go.Proofs.YtkoohabljjbliaaW.PrintWords Go.Proofs.YtkoohabljjbliaaW.PrintLast Go.Proofs.YtkoohabljjbliaaW.PrintMore
attribute [local go_sem] max2_int min2_int max_two min_two max_three min_three max_four min_four   -- for this text's walks alone
set_option linter.unusedVariables false
set_option linter.unusedSimpArgs false


/-! ### runs_Bits: function 14, given by hand -/

def runs_Bits.f (a0 : Int) : Option (Int × Bool) := if 0 ≤ a0 then some (bitsI a0) else none
theorem runs_Bits.calls (a0 : Int) (r1 : Int) (r2 : Bool) (w : World) (h : runs_Bits.f a0 = some (r1, r2)) :
    Calls Try.prog 14 #[.int .u8 a0] w fun e w' => e = .returned (.tuple #[.int .i64 r1, .bool r2]) ∧ Below w.heap.size w w' := by
  unfold runs_Bits.f at h
  by_cases h0 : 0 ≤ a0
  · rw [if_pos h0] at h
    have e := Option.some.inj h
    have hb := bits_any a0 h0 w
    rw [e] at hb
    exact hb
  · rw [if_neg h0] at h; cases h


end Go.Proofs.Ytkoohabljjbliaa.PC
