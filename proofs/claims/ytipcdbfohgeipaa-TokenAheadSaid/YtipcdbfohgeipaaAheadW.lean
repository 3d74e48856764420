/-
  TokenAhead: the walk, for every texts and tokens.
-/
import Derived.Test.YtipcdbfohgeipaaPureTokenAhead
set_option linter.unusedSimpArgs false
set_option linter.unusedVariables false
namespace Go.Proofs.Ytipcdbfohgeipaa
open Go.RowKit Go.Proofs.Ytipcdbfohgeipaa.PC Go.Proofs.YtipcdbfohgeipaaW.PrintWords

theorem ahead_all (a0 : ByteArray) (s0 : a0.size ≤ 140737488351232) (a1 : ByteArray) (s1 : a1.size ≤ 140737488351232) (a : Option Addr) (cap : Nat) (l : List S24) (hcap : l.length ≤ cap) (hb : PC.fit l = true) (W : World) (hC : Kd.C k24 W a l.length l) :
    Calls Try.prog 4 #[.string a0, .string a1, .slice a l.length cap] W fun e W' => e = .returned (.bool true) ∧ Below W.heap.size W W' :=
  platenlaw09_TokenAhead.calls a0 a1 a cap l true W hC hcap (Pure.TokenAhead a0 a1 l hb (by omega))
end Go.Proofs.Ytipcdbfohgeipaa
