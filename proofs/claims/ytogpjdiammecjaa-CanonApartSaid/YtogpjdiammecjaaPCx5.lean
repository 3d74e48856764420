-- WRITTEN BY A PROGRAM of this repo (wip/tools/given.py), which drives the kit's print over functions that are given by hand. Lean checks it.
import Derived.Test.YtogpjdiammecjaaPCx0
import Derived.Test.YtogpjdiammecjaaPCx3
namespace Go.Proofs.Ytogpjdiammecjaa.PC
open Go.RowKit Go.Proofs.YtogpjdiammecjaaW.PrintWords Go.Proofs.YtogpjdiammecjaaW.PrintLast Go.Proofs.YtogpjdiammecjaaW.PrintMore
attribute [local go_sem] max2_int min2_int max_two min_two max_three min_three max_four min_four   -- for this text's walks alone
set_option linter.unusedVariables false
set_option linter.unusedSimpArgs false


/-! ### canon_Weigh: function 13, given by hand -/

def canon_Weigh.f (l0 l1 : List Int) : Option Int := if okL l0 = true then some (weighK l0 l1 (min l0.length l1.length)) else none
theorem canon_Weigh.calls (A0 : Option Addr) (c0 : Nat) (l0 : List Int) (A1 : Option Addr) (c1 : Nat) (l1 : List Int) (r : Int) (w : World) (hr0 : Kd.C (Kd.int .u8) w A0 l0.length l0) (hc0 : l0.length ≤ c0) (hr1 : Kd.C (Kd.int .i64) w A1 l1.length l1) (hc1 : l1.length ≤ c1) (h : canon_Weigh.f l0 l1 = some r) :
    Calls Try.prog 13 #[.slice A0 l0.length c0, .slice A1 l1.length c1] w fun e w' => e = .returned (.int .i64 r) ∧ Below w.heap.size w w' := by
  unfold canon_Weigh.f at h
  cases hk : okL l0 with
  | false => rw [hk] at h; simp at h
  | true =>
    rw [hk] at h
    simp only [if_true, Option.some.injEq] at h
    subst h
    exact weigh_any l0 l1 A0 A1 c0 c1 w (Kd.reads_of_C hr0) (Kd.reads_of_C hr1) hc0 (okL_out hk)


end Go.Proofs.Ytogpjdiammecjaa.PC
