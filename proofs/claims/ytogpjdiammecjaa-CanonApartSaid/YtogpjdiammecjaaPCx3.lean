-- WRITTEN BY A PROGRAM of this repo (wip/tools/given.py), which drives the kit's print over functions that are given by hand. Lean checks it.
import Derived.Test.YtogpjdiammecjaaPCx0
namespace Go.Proofs.Ytogpjdiammecjaa.PC
open Go.RowKit Go.Proofs.YtogpjdiammecjaaW.PrintWords Go.Proofs.YtogpjdiammecjaaW.PrintLast Go.Proofs.YtogpjdiammecjaaW.PrintMore
attribute [local go_sem] max2_int min2_int max_two min_two max_three min_three max_four min_four   -- for this text's walks alone
set_option linter.unusedVariables false
set_option linter.unusedSimpArgs false


/-! ### canon_Kind: function 10, given by hand -/

/-- bytes -/
def okL (l : List Int) : Bool := l.all fun x => decide (0 ≤ x ∧ x < 256)
theorem okL_out {l : List Int} (h : okL l = true) : ∀ x ∈ l, 0 ≤ x ∧ x < 256 := by simpa [okL] using h
def canon_Kind.f (l0 : List Int) : Option Int := if okL l0 = true then some (kindI l0) else none
theorem canon_Kind.calls (A0 : Option Addr) (c0 : Nat) (l0 : List Int) (r : Int) (w : World) (hr0 : Kd.C (Kd.int .u8) w A0 l0.length l0) (hc0 : l0.length ≤ c0) (h : canon_Kind.f l0 = some r) :
    Calls Try.prog 10 #[.slice A0 l0.length c0] w fun e w' => e = .returned (.int .u8 r) ∧ Below w.heap.size w w' := by
  unfold canon_Kind.f at h
  cases hk : okL l0 with
  | false => rw [hk] at h; simp at h
  | true =>
    rw [hk] at h
    simp only [if_true, Option.some.injEq] at h
    subst h
    exact kind_any l0 A0 c0 w (Kd.reads_of_C hr0) (okL_out hk)


end Go.Proofs.Ytogpjdiammecjaa.PC
