/-
  No cell of these rows narrows 'for every input' (looked for: loops, veiled, ifaces, maps, wideKeys, modest, calm, conditions, laid).
  DERIVED. THE GIVEN ROWS OF THIS SEAT. 5 by the template 'for every input the law returns true; each argument reads behind the call as it read before'; 0 by the template 'total and deterministic' (their statements: YtaibfigofmakjaaTotals.lean).
  GIVEN WITH THE SEED: the statements are not yours to turn. If you find one false, say at which input.
  Laid BY PROGRAM, IN A SANDBOX (cutbox-rows.mjs): the forced cells as the released guide's own fill.sh prints them over the translation 9a5e4f3295472b9a… (all of the seat's roots in one cut). By AI agents, Wed Nov 11 2026. No macro, syntax, notation, axiom, sorry.
-/
import Derived.Test.YtaibfigofmakjaaChecked
import GoSem.Claim
import GoSem.ClaimJoined
import GoSem.ClaimMapViews
import Derived.JoinedTies
import Derived.KernelRfl
namespace Go.Proofs.Ytaibfigofmakjaa
/- THE CELL 'sum', in the pinned program and in every row, IS THE sha256 OF THE DUMP (.gsa) THAT YtaibfigofmakjaaProg.lean LOADS. Nothing in Lean hashes anything: it is a label: what it is worth is what the hold of that sum in a sandbox is worth. -/
noncomputable def Try.pinned : Pinned := { name := "ytaibfigofmakjaa", sum := "9a5e4f3295472b9a1bc9070241dcc470f36081de8f79edaac630361438a32f67", checked := Try.checked }
namespace Rows
def none {H : Type} : Left H := { results := [], args := [] }

/-- 'platenlaw04.SumsTells': WHATEVER THE INPUT: true; the input reads as it did. -/
def sumsTellsSpec : ChangeSpec := { name := "sumsTells", fn := fun _ => fun
  | [d1, d2, d3, d4, d5, d6] => { results := [.lit (.bool true)], args := [d1, d2, d3, d4, d5, d6] }
  | _ => none }
def sumsTellsRow : OpenClaim := { program := "ytaibfigofmakjaa", sum := "9a5e4f3295472b9a1bc9070241dcc470f36081de8f79edaac630361438a32f67", func := "platen/platenlaw04.SumsTells", spec := "sumsTells", apart := false }
def SumsTellsSaid : Prop := sumsTellsRow.holds Try.pinned (OpenSpec.ofChange sumsTellsSpec)

/-- ITS FALSE NEIGHBOUR: 'it returns false'. Refute it at one input. -/
def sumsTellsWrong : ChangeSpec := { name := "sumsTells", fn := fun _ => fun
  | [d1, d2, d3, d4, d5, d6] => { results := [.lit (.bool false)], args := [d1, d2, d3, d4, d5, d6] }
  | _ => none }
def SumsTellsWrongFalsely : Prop := sumsTellsRow.holds Try.pinned (OpenSpec.ofChange sumsTellsWrong)

/-- 'platenlaw04.SumsGo': WHATEVER THE INPUT: true; the input reads as it did. -/
def sumsGoSpec : ChangeSpec := { name := "sumsGo", fn := fun _ => fun
  | [d1, d2, d3] => { results := [.lit (.bool true)], args := [d1, d2, d3] }
  | _ => none }
def sumsGoRow : OpenClaim := { program := "ytaibfigofmakjaa", sum := "9a5e4f3295472b9a1bc9070241dcc470f36081de8f79edaac630361438a32f67", func := "platen/platenlaw04.SumsGo", spec := "sumsGo", apart := false }
def SumsGoSaid : Prop := sumsGoRow.holds Try.pinned (OpenSpec.ofChange sumsGoSpec)

/-- ITS FALSE NEIGHBOUR: 'it returns false'. Refute it at one input. -/
def sumsGoWrong : ChangeSpec := { name := "sumsGo", fn := fun _ => fun
  | [d1, d2, d3] => { results := [.lit (.bool false)], args := [d1, d2, d3] }
  | _ => none }
def SumsGoWrongFalsely : Prop := sumsGoRow.holds Try.pinned (OpenSpec.ofChange sumsGoWrong)

/-- 'platenlaw04.SumsApart': WHATEVER THE INPUT: true; the input reads as it did. -/
def sumsApartSpec : ChangeSpec := { name := "sumsApart", fn := fun _ => fun
  | [d1, d2, d3] => { results := [.lit (.bool true)], args := [d1, d2, d3] }
  | _ => none }
def sumsApartRow : OpenClaim := { program := "ytaibfigofmakjaa", sum := "9a5e4f3295472b9a1bc9070241dcc470f36081de8f79edaac630361438a32f67", func := "platen/platenlaw04.SumsApart", spec := "sumsApart", apart := false }
def SumsApartSaid : Prop := sumsApartRow.holds Try.pinned (OpenSpec.ofChange sumsApartSpec)

/-- ITS FALSE NEIGHBOUR: 'it returns false'. Refute it at one input. -/
def sumsApartWrong : ChangeSpec := { name := "sumsApart", fn := fun _ => fun
  | [d1, d2, d3] => { results := [.lit (.bool false)], args := [d1, d2, d3] }
  | _ => none }
def SumsApartWrongFalsely : Prop := sumsApartRow.holds Try.pinned (OpenSpec.ofChange sumsApartWrong)

/-- 'platenlaw04.SumsBits': WHATEVER THE INPUT: true; the input reads as it did. -/
def sumsBitsSpec : ChangeSpec := { name := "sumsBits", fn := fun _ => fun
  | [d1, d2, d3, d4] => { results := [.lit (.bool true)], args := [d1, d2, d3, d4] }
  | _ => none }
def sumsBitsRow : OpenClaim := { program := "ytaibfigofmakjaa", sum := "9a5e4f3295472b9a1bc9070241dcc470f36081de8f79edaac630361438a32f67", func := "platen/platenlaw04.SumsBits", spec := "sumsBits", apart := false }
def SumsBitsSaid : Prop := sumsBitsRow.holds Try.pinned (OpenSpec.ofChange sumsBitsSpec)

/-- ITS FALSE NEIGHBOUR: 'it returns false'. Refute it at one input. -/
def sumsBitsWrong : ChangeSpec := { name := "sumsBits", fn := fun _ => fun
  | [d1, d2, d3, d4] => { results := [.lit (.bool false)], args := [d1, d2, d3, d4] }
  | _ => none }
def SumsBitsWrongFalsely : Prop := sumsBitsRow.holds Try.pinned (OpenSpec.ofChange sumsBitsWrong)

/-- 'platenlaw04.SumsMore': WHATEVER THE INPUT: true; the input reads as it did. -/
def sumsMoreSpec : ChangeSpec := { name := "sumsMore", fn := fun _ => fun
  | [d1, d2, d3, d4, d5] => { results := [.lit (.bool true)], args := [d1, d2, d3, d4, d5] }
  | _ => none }
def sumsMoreRow : OpenClaim := { program := "ytaibfigofmakjaa", sum := "9a5e4f3295472b9a1bc9070241dcc470f36081de8f79edaac630361438a32f67", func := "platen/platenlaw04.SumsMore", spec := "sumsMore", apart := false }
def SumsMoreSaid : Prop := sumsMoreRow.holds Try.pinned (OpenSpec.ofChange sumsMoreSpec)

/-- ITS FALSE NEIGHBOUR: 'it returns false'. Refute it at one input. -/
def sumsMoreWrong : ChangeSpec := { name := "sumsMore", fn := fun _ => fun
  | [d1, d2, d3, d4, d5] => { results := [.lit (.bool false)], args := [d1, d2, d3, d4, d5] }
  | _ => none }
def SumsMoreWrongFalsely : Prop := sumsMoreRow.holds Try.pinned (OpenSpec.ofChange sumsMoreWrong)

/- THE SECOND FORM. 'bulk': how many values and letters a reading holds, each counted each time it is reached (what is shared counts as often as it is met; a slice's spare places count too). A statement '..UptoSaid' is the law's where the arguments, and the package variables that the reading takes, are together of bulk at most 1048576: NARROWER than '..Said'. Prove '..Said' where nothing that the law and all that it calls make is longer than what came in: it says more and counts as full. Else prove '..UptoSaid'. A law counts once. -/
mutual
def uptoBulk {H : Type} : DataW H → Nat
  | .lit (.string bytes) => bytes.length + 1
  | .lit _ => 1
  | .nil => 1
  | .ptr d => uptoBulk d + 1
  | .slice elems spare => uptoBulkAll elems + uptoBulkAll spare + 1
  | .agg parts => uptoBulkAll parts + 1
  | .iface _ d => uptoBulk d + 1
  | .map entries => uptoBulkEntries entries + 1
  | .held _ => 1
def uptoBulkAll {H : Type} : List (DataW H) → Nat
  | [] => 0
  | d :: r => uptoBulk d + uptoBulkAll r
def uptoBulkEntries {H : Type} : List (Lit × DataW H) → Nat
  | [] => 0
  | x :: r => uptoBulkEntry x + uptoBulkEntries r
def uptoBulkEntry {H : Type} : Lit × DataW H → Nat
  | (.string bytes, d) => bytes.length + uptoBulk d + 1
  | (_, d) => uptoBulk d + 1
 end
def uptoSmall : (H : Type) → List (DataW H) → Bool := fun _ ds => decide (uptoBulkAll ds ≤ 1048576)
def OpenSpec.upto (s : _root_.Go.ChangeSpec) : _root_.Go.OpenSpec := { _root_.Go.OpenSpec.ofChange s with cond := some uptoSmall }

/-- 'platenlaw04.SumsTells', WHERE WHAT IT READS IS OF BULK AT MOST 1048576: true; the input reads as it did. -/
def sumsTellsUptoRow : OpenClaim := { program := "ytaibfigofmakjaa", sum := "9a5e4f3295472b9a1bc9070241dcc470f36081de8f79edaac630361438a32f67", func := "platen/platenlaw04.SumsTells", spec := "sumsTells", apart := false, narrowed := true }
def SumsTellsUptoSaid : Prop := sumsTellsUptoRow.holds Try.pinned (OpenSpec.upto sumsTellsSpec)

/-- 'platenlaw04.SumsGo', WHERE WHAT IT READS IS OF BULK AT MOST 1048576: true; the input reads as it did. -/
def sumsGoUptoRow : OpenClaim := { program := "ytaibfigofmakjaa", sum := "9a5e4f3295472b9a1bc9070241dcc470f36081de8f79edaac630361438a32f67", func := "platen/platenlaw04.SumsGo", spec := "sumsGo", apart := false, narrowed := true }
def SumsGoUptoSaid : Prop := sumsGoUptoRow.holds Try.pinned (OpenSpec.upto sumsGoSpec)

/-- 'platenlaw04.SumsApart', WHERE WHAT IT READS IS OF BULK AT MOST 1048576: true; the input reads as it did. -/
def sumsApartUptoRow : OpenClaim := { program := "ytaibfigofmakjaa", sum := "9a5e4f3295472b9a1bc9070241dcc470f36081de8f79edaac630361438a32f67", func := "platen/platenlaw04.SumsApart", spec := "sumsApart", apart := false, narrowed := true }
def SumsApartUptoSaid : Prop := sumsApartUptoRow.holds Try.pinned (OpenSpec.upto sumsApartSpec)

/-- 'platenlaw04.SumsBits', WHERE WHAT IT READS IS OF BULK AT MOST 1048576: true; the input reads as it did. -/
def sumsBitsUptoRow : OpenClaim := { program := "ytaibfigofmakjaa", sum := "9a5e4f3295472b9a1bc9070241dcc470f36081de8f79edaac630361438a32f67", func := "platen/platenlaw04.SumsBits", spec := "sumsBits", apart := false, narrowed := true }
def SumsBitsUptoSaid : Prop := sumsBitsUptoRow.holds Try.pinned (OpenSpec.upto sumsBitsSpec)

/-- 'platenlaw04.SumsMore', WHERE WHAT IT READS IS OF BULK AT MOST 1048576: true; the input reads as it did. -/
def sumsMoreUptoRow : OpenClaim := { program := "ytaibfigofmakjaa", sum := "9a5e4f3295472b9a1bc9070241dcc470f36081de8f79edaac630361438a32f67", func := "platen/platenlaw04.SumsMore", spec := "sumsMore", apart := false, narrowed := true }
def SumsMoreUptoSaid : Prop := sumsMoreUptoRow.holds Try.pinned (OpenSpec.upto sumsMoreSpec)

end Rows
end Go.Proofs.Ytaibfigofmakjaa
