/-
  RunsTell: the walk, for every lengths, runs and number.
-/
import Derived.Test.YtkoohabljjbliaaPureRunsTell
set_option linter.unusedSimpArgs false
set_option linter.unusedVariables false
namespace Go.Proofs.Ytkoohabljjbliaa
open Go.RowKit Go.Proofs.Ytkoohabljjbliaa.PC Go.Proofs.YtkoohabljjbliaaW.PrintWords

theorem tell_all (a0 : Option Addr) (len0 cap0 : Nat) (z0 : List Int) (a1 : Option Addr) (cap1 : Nat) (l : List S33) (hcap : l.length ≤ cap1) (hb : Pure.byteS l) (n : Int) (h1 : -9223372036854775808 ≤ n) (h2 : n < 9223372036854775808) (W : World)
    (w0 : (a0 = none ∧ len0 = 0 ∧ cap0 = 0 ∧ z0 = []) ∨ ∃ x, a0 = some x ∧ len0 ≤ cap0 ∧ cap0 ≤ maxLen ∧ z0.length = cap0 ∧ (∀ i, i < z0.length → W.cell? (x.add i) = some (.int .u8 (z0.getD i 0))) ∧ ∀ n ∈ z0, (Lit.int .u8 n).wf = true)
    (hC : Kd.C k33 W a1 l.length l) :
    Calls Try.prog 3 #[.slice a0 len0 cap0, .slice a1 l.length cap1, .int .i64 n] W fun e W' => e = .returned (.bool true) ∧ Below W.heap.size W W' := by
  obtain ⟨l0, rfl, hr0, hm0, hw0, hc0⟩ := ReadsInt.ofRowC w0
  obtain ⟨k, h⟩ := Pure.RunsTell l0 l hb n h2
  exact platenlaw12_RunsTell.calls k _ _ l0 _ _ l n true W (Kd.C_of_reads (d := (0 : Int)) (h1 := fun _ => rfl) hr0) hc0 hC hcap h
end Go.Proofs.Ytkoohabljjbliaa
