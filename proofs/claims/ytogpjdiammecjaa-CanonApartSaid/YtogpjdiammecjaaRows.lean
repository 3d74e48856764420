/-
  No cell of these rows narrows 'for every input' (looked for: loops, veiled, ifaces, maps, wideKeys, modest, calm, conditions, laid).
  DERIVED. THE GIVEN ROWS OF THIS SEAT. 5 by the template 'for every input the law returns true; each argument reads behind the call as it read before'; 0 by the template 'total and deterministic' (their statements: YtogpjdiammecjaaTotals.lean).
  GIVEN WITH THE SEED: the statements are not yours to turn. If you find one false, say at which input.
  Laid BY PROGRAM, IN A SANDBOX (cutbox-rows.mjs): the forced cells as the released guide's own fill.sh prints them over the translation 018a2efbf0a3e05b… (all of the seat's roots in one cut). By AI agents, Wed Nov 11 2026. No macro, syntax, notation, axiom, sorry.
-/
import Derived.Test.YtogpjdiammecjaaChecked
import GoSem.Claim
import GoSem.ClaimJoined
import GoSem.ClaimMapViews
import Derived.JoinedTies
import Derived.KernelRfl
namespace Go.Proofs.Ytogpjdiammecjaa
/- THE CELL 'sum', in the pinned program and in every row, IS THE sha256 OF THE DUMP (.gsa) THAT YtogpjdiammecjaaProg.lean LOADS. Nothing in Lean hashes anything: it is a label: what it is worth is what the hold of that sum in a sandbox is worth. -/
noncomputable def Try.pinned : Pinned := { name := "ytogpjdiammecjaa", sum := "018a2efbf0a3e05be1d37ff36a21ecc7e0d5bea5cff859b72ebd858df20da37e", checked := Try.checked }
namespace Rows
def none {H : Type} : Left H := { results := [], args := [] }

/-- 'platenlaw05.CanonApart': WHATEVER THE INPUT: true; the input reads as it did. -/
def canonApartSpec : ChangeSpec := { name := "canonApart", fn := fun _ => fun
  | [d] => { results := [.lit (.bool true)], args := [d] }
  | _ => none }
def canonApartRow : OpenClaim := { program := "ytogpjdiammecjaa", sum := "018a2efbf0a3e05be1d37ff36a21ecc7e0d5bea5cff859b72ebd858df20da37e", func := "platen/platenlaw05.CanonApart", spec := "canonApart", apart := false }
def CanonApartSaid : Prop := canonApartRow.holds Try.pinned (OpenSpec.ofChange canonApartSpec)

/-- ITS FALSE NEIGHBOUR: 'it returns false'. Refute it at one input. -/
def canonApartWrong : ChangeSpec := { name := "canonApart", fn := fun _ => fun
  | [d] => { results := [.lit (.bool false)], args := [d] }
  | _ => none }
def CanonApartWrongFalsely : Prop := canonApartRow.holds Try.pinned (OpenSpec.ofChange canonApartWrong)

/-- 'platenlaw05.CanonWhole': WHATEVER THE INPUT: true; the input reads as it did. -/
def canonWholeSpec : ChangeSpec := { name := "canonWhole", fn := fun _ => fun
  | [d1, d2] => { results := [.lit (.bool true)], args := [d1, d2] }
  | _ => none }
def canonWholeRow : OpenClaim := { program := "ytogpjdiammecjaa", sum := "018a2efbf0a3e05be1d37ff36a21ecc7e0d5bea5cff859b72ebd858df20da37e", func := "platen/platenlaw05.CanonWhole", spec := "canonWhole", apart := false }
def CanonWholeSaid : Prop := canonWholeRow.holds Try.pinned (OpenSpec.ofChange canonWholeSpec)

/-- ITS FALSE NEIGHBOUR: 'it returns false'. Refute it at one input. -/
def canonWholeWrong : ChangeSpec := { name := "canonWhole", fn := fun _ => fun
  | [d1, d2] => { results := [.lit (.bool false)], args := [d1, d2] }
  | _ => none }
def CanonWholeWrongFalsely : Prop := canonWholeRow.holds Try.pinned (OpenSpec.ofChange canonWholeWrong)

/-- 'platenlaw05.CanonSplit': WHATEVER THE INPUT: true; the input reads as it did. -/
def canonSplitSpec : ChangeSpec := { name := "canonSplit", fn := fun _ => fun
  | [d1, d2, d3, d4] => { results := [.lit (.bool true)], args := [d1, d2, d3, d4] }
  | _ => none }
def canonSplitRow : OpenClaim := { program := "ytogpjdiammecjaa", sum := "018a2efbf0a3e05be1d37ff36a21ecc7e0d5bea5cff859b72ebd858df20da37e", func := "platen/platenlaw05.CanonSplit", spec := "canonSplit", apart := false }
def CanonSplitSaid : Prop := canonSplitRow.holds Try.pinned (OpenSpec.ofChange canonSplitSpec)

/-- ITS FALSE NEIGHBOUR: 'it returns false'. Refute it at one input. -/
def canonSplitWrong : ChangeSpec := { name := "canonSplit", fn := fun _ => fun
  | [d1, d2, d3, d4] => { results := [.lit (.bool false)], args := [d1, d2, d3, d4] }
  | _ => none }
def CanonSplitWrongFalsely : Prop := canonSplitRow.holds Try.pinned (OpenSpec.ofChange canonSplitWrong)

/-- 'platenlaw05.CanonNone': WHATEVER THE INPUT: true; the input reads as it did. -/
def canonNoneSpec : ChangeSpec := { name := "canonNone", fn := fun _ => fun
  | [d1, d2, d3, d4] => { results := [.lit (.bool true)], args := [d1, d2, d3, d4] }
  | _ => none }
def canonNoneRow : OpenClaim := { program := "ytogpjdiammecjaa", sum := "018a2efbf0a3e05be1d37ff36a21ecc7e0d5bea5cff859b72ebd858df20da37e", func := "platen/platenlaw05.CanonNone", spec := "canonNone", apart := false }
def CanonNoneSaid : Prop := canonNoneRow.holds Try.pinned (OpenSpec.ofChange canonNoneSpec)

/-- ITS FALSE NEIGHBOUR: 'it returns false'. Refute it at one input. -/
def canonNoneWrong : ChangeSpec := { name := "canonNone", fn := fun _ => fun
  | [d1, d2, d3, d4] => { results := [.lit (.bool false)], args := [d1, d2, d3, d4] }
  | _ => none }
def CanonNoneWrongFalsely : Prop := canonNoneRow.holds Try.pinned (OpenSpec.ofChange canonNoneWrong)

/-- 'platenlaw05.CanonTells': WHATEVER THE INPUT: true; the input reads as it did. -/
def canonTellsSpec : ChangeSpec := { name := "canonTells", fn := fun _ => fun
  | [d1, d2] => { results := [.lit (.bool true)], args := [d1, d2] }
  | _ => none }
def canonTellsRow : OpenClaim := { program := "ytogpjdiammecjaa", sum := "018a2efbf0a3e05be1d37ff36a21ecc7e0d5bea5cff859b72ebd858df20da37e", func := "platen/platenlaw05.CanonTells", spec := "canonTells", apart := false }
def CanonTellsSaid : Prop := canonTellsRow.holds Try.pinned (OpenSpec.ofChange canonTellsSpec)

/-- ITS FALSE NEIGHBOUR: 'it returns false'. Refute it at one input. -/
def canonTellsWrong : ChangeSpec := { name := "canonTells", fn := fun _ => fun
  | [d1, d2] => { results := [.lit (.bool false)], args := [d1, d2] }
  | _ => none }
def CanonTellsWrongFalsely : Prop := canonTellsRow.holds Try.pinned (OpenSpec.ofChange canonTellsWrong)

/- THE SECOND FORM. 'bulk': how many values and letters a reading holds, each counted each time it is reached (what is shared counts as often as it is met; a slice's spare places count too). A statement '..UptoSaid' is the law's where the arguments, and the package variables that the reading takes, are together of bulk at most 1048576: NARROWER than '..Said'. Prove '..Said' where nothing that the law and all that it calls make is longer than what came in: it says more and counts as full. Else prove '..UptoSaid'. A law counts once. -/
mutual
def uptoBulk {H : Type} : DataW H → Nat
  | .lit (.string bytes) => bytes.length + 1
  | .lit _ => 1
  | .nil => 1
  | .ptr d => uptoBulk d + 1
  | .slice elems spare => uptoBulkAll elems + uptoBulkAll spare + 1
  | .agg parts => uptoBulkAll parts + 1
  | .iface _ d => uptoBulk d + 1
  | .map entries => uptoBulkEntries entries + 1
  | .held _ => 1
def uptoBulkAll {H : Type} : List (DataW H) → Nat
  | [] => 0
  | d :: r => uptoBulk d + uptoBulkAll r
def uptoBulkEntries {H : Type} : List (Lit × DataW H) → Nat
  | [] => 0
  | x :: r => uptoBulkEntry x + uptoBulkEntries r
def uptoBulkEntry {H : Type} : Lit × DataW H → Nat
  | (.string bytes, d) => bytes.length + uptoBulk d + 1
  | (_, d) => uptoBulk d + 1
 end
def uptoSmall : (H : Type) → List (DataW H) → Bool := fun _ ds => decide (uptoBulkAll ds ≤ 1048576)
def OpenSpec.upto (s : _root_.Go.ChangeSpec) : _root_.Go.OpenSpec := { _root_.Go.OpenSpec.ofChange s with cond := some uptoSmall }

/-- 'platenlaw05.CanonApart', WHERE WHAT IT READS IS OF BULK AT MOST 1048576: true; the input reads as it did. -/
def canonApartUptoRow : OpenClaim := { program := "ytogpjdiammecjaa", sum := "018a2efbf0a3e05be1d37ff36a21ecc7e0d5bea5cff859b72ebd858df20da37e", func := "platen/platenlaw05.CanonApart", spec := "canonApart", apart := false, narrowed := true }
def CanonApartUptoSaid : Prop := canonApartUptoRow.holds Try.pinned (OpenSpec.upto canonApartSpec)

/-- 'platenlaw05.CanonWhole', WHERE WHAT IT READS IS OF BULK AT MOST 1048576: true; the input reads as it did. -/
def canonWholeUptoRow : OpenClaim := { program := "ytogpjdiammecjaa", sum := "018a2efbf0a3e05be1d37ff36a21ecc7e0d5bea5cff859b72ebd858df20da37e", func := "platen/platenlaw05.CanonWhole", spec := "canonWhole", apart := false, narrowed := true }
def CanonWholeUptoSaid : Prop := canonWholeUptoRow.holds Try.pinned (OpenSpec.upto canonWholeSpec)

/-- 'platenlaw05.CanonSplit', WHERE WHAT IT READS IS OF BULK AT MOST 1048576: true; the input reads as it did. -/
def canonSplitUptoRow : OpenClaim := { program := "ytogpjdiammecjaa", sum := "018a2efbf0a3e05be1d37ff36a21ecc7e0d5bea5cff859b72ebd858df20da37e", func := "platen/platenlaw05.CanonSplit", spec := "canonSplit", apart := false, narrowed := true }
def CanonSplitUptoSaid : Prop := canonSplitUptoRow.holds Try.pinned (OpenSpec.upto canonSplitSpec)

/-- 'platenlaw05.CanonNone', WHERE WHAT IT READS IS OF BULK AT MOST 1048576: true; the input reads as it did. -/
def canonNoneUptoRow : OpenClaim := { program := "ytogpjdiammecjaa", sum := "018a2efbf0a3e05be1d37ff36a21ecc7e0d5bea5cff859b72ebd858df20da37e", func := "platen/platenlaw05.CanonNone", spec := "canonNone", apart := false, narrowed := true }
def CanonNoneUptoSaid : Prop := canonNoneUptoRow.holds Try.pinned (OpenSpec.upto canonNoneSpec)

/-- 'platenlaw05.CanonTells', WHERE WHAT IT READS IS OF BULK AT MOST 1048576: true; the input reads as it did. -/
def canonTellsUptoRow : OpenClaim := { program := "ytogpjdiammecjaa", sum := "018a2efbf0a3e05be1d37ff36a21ecc7e0d5bea5cff859b72ebd858df20da37e", func := "platen/platenlaw05.CanonTells", spec := "canonTells", apart := false, narrowed := true }
def CanonTellsUptoSaid : Prop := canonTellsUptoRow.holds Try.pinned (OpenSpec.upto canonTellsSpec)

end Rows
end Go.Proofs.Ytogpjdiammecjaa
