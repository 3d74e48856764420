/-
  RunsCounts: the walk, for every runs.
-/
import Derived.Test.YtkoohabljjbliaaPureRunsCounts
set_option linter.unusedSimpArgs false
set_option linter.unusedVariables false
namespace Go.Proofs.Ytkoohabljjbliaa
open Go.RowKit Go.Proofs.Ytkoohabljjbliaa.PC Go.Proofs.YtkoohabljjbliaaW.PrintWords

theorem counts_all (a : Option Addr) (cap : Nat) (l : List S33) (hcap : l.length ≤ cap) (hb : Pure.byteS l) (more : Int) (h1 : -128 ≤ more) (h2 : more < 128) (W : World) (hC : Kd.C k33 W a l.length l) :
    Calls Try.prog 5 #[.slice a l.length cap, .int .i8 more] W fun e W' => e = .returned (.bool true) ∧ Below W.heap.size W W' := by
  obtain ⟨k, h⟩ := Pure.RunsCounts l hb more ⟨h1, h2⟩
  exact platenlaw12_RunsCounts.calls k _ _ l more true W hC hcap h
end Go.Proofs.Ytkoohabljjbliaa
