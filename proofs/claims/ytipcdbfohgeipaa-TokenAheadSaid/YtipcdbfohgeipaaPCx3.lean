-- WRITTEN BY A PROGRAM of this repo (wip/tools/given.py), which drives the kit's print over functions that are given by hand. Lean checks it.
import Derived.Test.YtipcdbfohgeipaaPCx0
import Derived.Test.YtipcdbfohgeipaaPCx1
namespace Go.Proofs.Ytipcdbfohgeipaa.PC
open Go.RowKit Go.Proofs.YtipcdbfohgeipaaW.PrintWords Go.Proofs.YtipcdbfohgeipaaW.PrintLast Go.Proofs.YtipcdbfohgeipaaW.PrintMore
attribute [local go_sem] max2_int min2_int max_two min_two max_three min_three max_four min_four   -- for this text's walks alone
set_option linter.unusedVariables false
set_option linter.unusedSimpArgs false


/-! ### token_Size: function 7, given by hand -/

def token_Size.f (l0 : List S24) : Option Int := if l0.length ≤ 1000000 then some (wsum ((l0.map tk).map sizeI)) else none
theorem token_Size.calls (A0 : Option Addr) (c0 : Nat) (l0 : List (S24)) (r : Int) (w : World) (hr0 : Kd.C k24 w A0 l0.length l0) (hc0 : l0.length ≤ c0) (h : token_Size.f l0 = some r) :
    Calls Try.prog 7 #[.slice A0 l0.length c0] w fun e w' => e = .returned (.int .i64 r) ∧ Below w.heap.size w w' := by
  unfold token_Size.f at h
  by_cases hl : l0.length ≤ 1000000
  · rw [if_pos hl] at h
    have e := Option.some.inj h
    have hb := size_any (l0.map tk) A0 c0 w (by rw [List.length_map]; exact hl) (toks_of hr0)
    rw [e, List.length_map] at hb
    exact hb
  · rw [if_neg hl] at h; cases h


end Go.Proofs.Ytipcdbfohgeipaa.PC
