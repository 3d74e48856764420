/-
  No cell of these rows narrows 'for every input' (looked for: loops, veiled, ifaces, maps, wideKeys, modest, calm, conditions, laid).
  DERIVED. THE GIVEN ROWS OF THIS SEAT. 8 by the template 'for every input the law returns true; each argument reads behind the call as it read before'; 0 by the template 'total and deterministic' (their statements: YtolkmjclldjkkaaTotals.lean).
  GIVEN WITH THE SEED: the statements are not yours to turn. If you find one false, say at which input.
  Laid BY PROGRAM, IN A SANDBOX (cutbox-rows.mjs): the forced cells as the released guide's own fill.sh prints them over the translation efce353bdc85baeb… (all of the seat's roots in one cut). By AI agents, Wed Nov 11 2026. No macro, syntax, notation, axiom, sorry.
-/
import Derived.Test.YtolkmjclldjkkaaChecked
import GoSem.Claim
import GoSem.ClaimJoined
import GoSem.ClaimMapViews
import Derived.JoinedTies
import Derived.KernelRfl
namespace Go.Proofs.Ytolkmjclldjkkaa
/- THE CELL 'sum', in the pinned program and in every row, IS THE sha256 OF THE DUMP (.gsa) THAT YtolkmjclldjkkaaProg.lean LOADS. Nothing in Lean hashes anything: it is a label: what it is worth is what the hold of that sum in a sandbox is worth. -/
noncomputable def Try.pinned : Pinned := { name := "ytolkmjclldjkkaa", sum := "efce353bdc85baeb21a684596f140ed4760dae6827f84b26bf7d1c8d5db17e53", checked := Try.checked }
namespace Rows
def none {H : Type} : Left H := { results := [], args := [] }

/-- 'platenlaw08.ChainMatch': WHATEVER THE INPUT: true; the input reads as it did. -/
def chainMatchSpec : ChangeSpec := { name := "chainMatch", fn := fun _ => fun
  | [d1, d2, d3, d4] => { results := [.lit (.bool true)], args := [d1, d2, d3, d4] }
  | _ => none }
def chainMatchRow : OpenClaim := { program := "ytolkmjclldjkkaa", sum := "efce353bdc85baeb21a684596f140ed4760dae6827f84b26bf7d1c8d5db17e53", func := "platen/platenlaw08.ChainMatch", spec := "chainMatch", unfollowed := true, recurses := true, plainKeys := false, apart := false }
def ChainMatchSaid : Prop := chainMatchRow.holds Try.pinned (OpenSpec.ofChange chainMatchSpec)

/-- ITS FALSE NEIGHBOUR: 'it returns false'. Refute it at one input. -/
def chainMatchWrong : ChangeSpec := { name := "chainMatch", fn := fun _ => fun
  | [d1, d2, d3, d4] => { results := [.lit (.bool false)], args := [d1, d2, d3, d4] }
  | _ => none }
def ChainMatchWrongFalsely : Prop := chainMatchRow.holds Try.pinned (OpenSpec.ofChange chainMatchWrong)

/-- 'platenlaw08.ChainFar': WHATEVER THE INPUT: true; the input reads as it did. -/
def chainFarSpec : ChangeSpec := { name := "chainFar", fn := fun _ => fun
  | [d] => { results := [.lit (.bool true)], args := [d] }
  | _ => none }
def chainFarRow : OpenClaim := { program := "ytolkmjclldjkkaa", sum := "efce353bdc85baeb21a684596f140ed4760dae6827f84b26bf7d1c8d5db17e53", func := "platen/platenlaw08.ChainFar", spec := "chainFar", unfollowed := true, recurses := true, plainKeys := false, apart := false }
def ChainFarSaid : Prop := chainFarRow.holds Try.pinned (OpenSpec.ofChange chainFarSpec)

/-- ITS FALSE NEIGHBOUR: 'it returns false'. Refute it at one input. -/
def chainFarWrong : ChangeSpec := { name := "chainFar", fn := fun _ => fun
  | [d] => { results := [.lit (.bool false)], args := [d] }
  | _ => none }
def ChainFarWrongFalsely : Prop := chainFarRow.holds Try.pinned (OpenSpec.ofChange chainFarWrong)

/-- 'platenlaw08.ChainNone': WHATEVER THE INPUT: true; the input reads as it did. -/
def chainNoneSpec : ChangeSpec := { name := "chainNone", fn := fun _ => fun
  | [d1, d2] => { results := [.lit (.bool true)], args := [d1, d2] }
  | _ => none }
def chainNoneRow : OpenClaim := { program := "ytolkmjclldjkkaa", sum := "efce353bdc85baeb21a684596f140ed4760dae6827f84b26bf7d1c8d5db17e53", func := "platen/platenlaw08.ChainNone", spec := "chainNone", unfollowed := true, recurses := true, plainKeys := false, apart := false }
def ChainNoneSaid : Prop := chainNoneRow.holds Try.pinned (OpenSpec.ofChange chainNoneSpec)

/-- ITS FALSE NEIGHBOUR: 'it returns false'. Refute it at one input. -/
def chainNoneWrong : ChangeSpec := { name := "chainNone", fn := fun _ => fun
  | [d1, d2] => { results := [.lit (.bool false)], args := [d1, d2] }
  | _ => none }
def ChainNoneWrongFalsely : Prop := chainNoneRow.holds Try.pinned (OpenSpec.ofChange chainNoneWrong)

/-- 'platenlaw08.ChainOrder': WHATEVER THE INPUT: true; the input reads as it did. -/
def chainOrderSpec : ChangeSpec := { name := "chainOrder", fn := fun _ => fun
  | [d1, d2, d3, d4, d5, d6, d7] => { results := [.lit (.bool true)], args := [d1, d2, d3, d4, d5, d6, d7] }
  | _ => none }
def chainOrderRow : OpenClaim := { program := "ytolkmjclldjkkaa", sum := "efce353bdc85baeb21a684596f140ed4760dae6827f84b26bf7d1c8d5db17e53", func := "platen/platenlaw08.ChainOrder", spec := "chainOrder", unfollowed := true, recurses := true, plainKeys := false, apart := false }
def ChainOrderSaid : Prop := chainOrderRow.holds Try.pinned (OpenSpec.ofChange chainOrderSpec)

/-- ITS FALSE NEIGHBOUR: 'it returns false'. Refute it at one input. -/
def chainOrderWrong : ChangeSpec := { name := "chainOrder", fn := fun _ => fun
  | [d1, d2, d3, d4, d5, d6, d7] => { results := [.lit (.bool false)], args := [d1, d2, d3, d4, d5, d6, d7] }
  | _ => none }
def ChainOrderWrongFalsely : Prop := chainOrderRow.holds Try.pinned (OpenSpec.ofChange chainOrderWrong)

/-- 'platenlaw10.ParseTokens': WHATEVER THE INPUT: true; the input reads as it did. -/
def parseTokensSpec : ChangeSpec := { name := "parseTokens", fn := fun _ => fun
  | [d1, d2, d3] => { results := [.lit (.bool true)], args := [d1, d2, d3] }
  | _ => none }
def parseTokensRow : OpenClaim := { program := "ytolkmjclldjkkaa", sum := "efce353bdc85baeb21a684596f140ed4760dae6827f84b26bf7d1c8d5db17e53", func := "platen/platenlaw10.ParseTokens", spec := "parseTokens", unfollowed := true, recurses := true, plainKeys := false, apart := false }
def ParseTokensSaid : Prop := parseTokensRow.holds Try.pinned (OpenSpec.ofChange parseTokensSpec)

/-- ITS FALSE NEIGHBOUR: 'it returns false'. Refute it at one input. -/
def parseTokensWrong : ChangeSpec := { name := "parseTokens", fn := fun _ => fun
  | [d1, d2, d3] => { results := [.lit (.bool false)], args := [d1, d2, d3] }
  | _ => none }
def ParseTokensWrongFalsely : Prop := parseTokensRow.holds Try.pinned (OpenSpec.ofChange parseTokensWrong)

/-- 'platenlaw10.ParseBack': WHATEVER THE INPUT: true; the input reads as it did. -/
def parseBackSpec : ChangeSpec := { name := "parseBack", fn := fun _ => fun
  | [d1, d2, d3] => { results := [.lit (.bool true)], args := [d1, d2, d3] }
  | _ => none }
def parseBackRow : OpenClaim := { program := "ytolkmjclldjkkaa", sum := "efce353bdc85baeb21a684596f140ed4760dae6827f84b26bf7d1c8d5db17e53", func := "platen/platenlaw10.ParseBack", spec := "parseBack", unfollowed := true, recurses := true, plainKeys := false, apart := false }
def ParseBackSaid : Prop := parseBackRow.holds Try.pinned (OpenSpec.ofChange parseBackSpec)

/-- ITS FALSE NEIGHBOUR: 'it returns false'. Refute it at one input. -/
def parseBackWrong : ChangeSpec := { name := "parseBack", fn := fun _ => fun
  | [d1, d2, d3] => { results := [.lit (.bool false)], args := [d1, d2, d3] }
  | _ => none }
def ParseBackWrongFalsely : Prop := parseBackRow.holds Try.pinned (OpenSpec.ofChange parseBackWrong)

/-- 'platenlaw10.ParseRuns': WHATEVER THE INPUT: true; the input reads as it did. -/
def parseRunsSpec : ChangeSpec := { name := "parseRuns", fn := fun _ => fun
  | [d1, d2, d3] => { results := [.lit (.bool true)], args := [d1, d2, d3] }
  | _ => none }
def parseRunsRow : OpenClaim := { program := "ytolkmjclldjkkaa", sum := "efce353bdc85baeb21a684596f140ed4760dae6827f84b26bf7d1c8d5db17e53", func := "platen/platenlaw10.ParseRuns", spec := "parseRuns", unfollowed := true, recurses := true, plainKeys := false, apart := false }
def ParseRunsSaid : Prop := parseRunsRow.holds Try.pinned (OpenSpec.ofChange parseRunsSpec)

/-- ITS FALSE NEIGHBOUR: 'it returns false'. Refute it at one input. -/
def parseRunsWrong : ChangeSpec := { name := "parseRuns", fn := fun _ => fun
  | [d1, d2, d3] => { results := [.lit (.bool false)], args := [d1, d2, d3] }
  | _ => none }
def ParseRunsWrongFalsely : Prop := parseRunsRow.holds Try.pinned (OpenSpec.ofChange parseRunsWrong)

/-- 'platenlaw10.ParseBeyond': WHATEVER THE INPUT: true; the input reads as it did. -/
def parseBeyondSpec : ChangeSpec := { name := "parseBeyond", fn := fun _ => fun
  | [d1, d2, d3, d4] => { results := [.lit (.bool true)], args := [d1, d2, d3, d4] }
  | _ => none }
def parseBeyondRow : OpenClaim := { program := "ytolkmjclldjkkaa", sum := "efce353bdc85baeb21a684596f140ed4760dae6827f84b26bf7d1c8d5db17e53", func := "platen/platenlaw10.ParseBeyond", spec := "parseBeyond", unfollowed := true, recurses := true, plainKeys := false, apart := false }
def ParseBeyondSaid : Prop := parseBeyondRow.holds Try.pinned (OpenSpec.ofChange parseBeyondSpec)

/-- ITS FALSE NEIGHBOUR: 'it returns false'. Refute it at one input. -/
def parseBeyondWrong : ChangeSpec := { name := "parseBeyond", fn := fun _ => fun
  | [d1, d2, d3, d4] => { results := [.lit (.bool false)], args := [d1, d2, d3, d4] }
  | _ => none }
def ParseBeyondWrongFalsely : Prop := parseBeyondRow.holds Try.pinned (OpenSpec.ofChange parseBeyondWrong)

/- THE SECOND FORM. 'bulk': how many values and letters a reading holds, each counted each time it is reached (what is shared counts as often as it is met; a slice's spare places count too). A statement '..UptoSaid' is the law's where the arguments, and the package variables that the reading takes, are together of bulk at most 1048576: NARROWER than '..Said'. Prove '..Said' where nothing that the law and all that it calls make is longer than what came in: it says more and counts as full. Else prove '..UptoSaid'. A law counts once. -/
mutual
def uptoBulk {H : Type} : DataW H → Nat
  | .lit (.string bytes) => bytes.length + 1
  | .lit _ => 1
  | .nil => 1
  | .ptr d => uptoBulk d + 1
  | .slice elems spare => uptoBulkAll elems + uptoBulkAll spare + 1
  | .agg parts => uptoBulkAll parts + 1
  | .iface _ d => uptoBulk d + 1
  | .map entries => uptoBulkEntries entries + 1
  | .held _ => 1
def uptoBulkAll {H : Type} : List (DataW H) → Nat
  | [] => 0
  | d :: r => uptoBulk d + uptoBulkAll r
def uptoBulkEntries {H : Type} : List (Lit × DataW H) → Nat
  | [] => 0
  | x :: r => uptoBulkEntry x + uptoBulkEntries r
def uptoBulkEntry {H : Type} : Lit × DataW H → Nat
  | (.string bytes, d) => bytes.length + uptoBulk d + 1
  | (_, d) => uptoBulk d + 1
 end
def uptoSmall : (H : Type) → List (DataW H) → Bool := fun _ ds => decide (uptoBulkAll ds ≤ 1048576)
def OpenSpec.upto (s : _root_.Go.ChangeSpec) : _root_.Go.OpenSpec := { _root_.Go.OpenSpec.ofChange s with cond := some uptoSmall }

/-- 'platenlaw08.ChainMatch', WHERE WHAT IT READS IS OF BULK AT MOST 1048576: true; the input reads as it did. -/
def chainMatchUptoRow : OpenClaim := { program := "ytolkmjclldjkkaa", sum := "efce353bdc85baeb21a684596f140ed4760dae6827f84b26bf7d1c8d5db17e53", func := "platen/platenlaw08.ChainMatch", spec := "chainMatch", unfollowed := true, recurses := true, plainKeys := false, apart := false, narrowed := true }
def ChainMatchUptoSaid : Prop := chainMatchUptoRow.holds Try.pinned (OpenSpec.upto chainMatchSpec)

/-- 'platenlaw08.ChainFar', WHERE WHAT IT READS IS OF BULK AT MOST 1048576: true; the input reads as it did. -/
def chainFarUptoRow : OpenClaim := { program := "ytolkmjclldjkkaa", sum := "efce353bdc85baeb21a684596f140ed4760dae6827f84b26bf7d1c8d5db17e53", func := "platen/platenlaw08.ChainFar", spec := "chainFar", unfollowed := true, recurses := true, plainKeys := false, apart := false, narrowed := true }
def ChainFarUptoSaid : Prop := chainFarUptoRow.holds Try.pinned (OpenSpec.upto chainFarSpec)

/-- 'platenlaw08.ChainNone', WHERE WHAT IT READS IS OF BULK AT MOST 1048576: true; the input reads as it did. -/
def chainNoneUptoRow : OpenClaim := { program := "ytolkmjclldjkkaa", sum := "efce353bdc85baeb21a684596f140ed4760dae6827f84b26bf7d1c8d5db17e53", func := "platen/platenlaw08.ChainNone", spec := "chainNone", unfollowed := true, recurses := true, plainKeys := false, apart := false, narrowed := true }
def ChainNoneUptoSaid : Prop := chainNoneUptoRow.holds Try.pinned (OpenSpec.upto chainNoneSpec)

/-- 'platenlaw08.ChainOrder', WHERE WHAT IT READS IS OF BULK AT MOST 1048576: true; the input reads as it did. -/
def chainOrderUptoRow : OpenClaim := { program := "ytolkmjclldjkkaa", sum := "efce353bdc85baeb21a684596f140ed4760dae6827f84b26bf7d1c8d5db17e53", func := "platen/platenlaw08.ChainOrder", spec := "chainOrder", unfollowed := true, recurses := true, plainKeys := false, apart := false, narrowed := true }
def ChainOrderUptoSaid : Prop := chainOrderUptoRow.holds Try.pinned (OpenSpec.upto chainOrderSpec)

/-- 'platenlaw10.ParseTokens', WHERE WHAT IT READS IS OF BULK AT MOST 1048576: true; the input reads as it did. -/
def parseTokensUptoRow : OpenClaim := { program := "ytolkmjclldjkkaa", sum := "efce353bdc85baeb21a684596f140ed4760dae6827f84b26bf7d1c8d5db17e53", func := "platen/platenlaw10.ParseTokens", spec := "parseTokens", unfollowed := true, recurses := true, plainKeys := false, apart := false, narrowed := true }
def ParseTokensUptoSaid : Prop := parseTokensUptoRow.holds Try.pinned (OpenSpec.upto parseTokensSpec)

/-- 'platenlaw10.ParseBack', WHERE WHAT IT READS IS OF BULK AT MOST 1048576: true; the input reads as it did. -/
def parseBackUptoRow : OpenClaim := { program := "ytolkmjclldjkkaa", sum := "efce353bdc85baeb21a684596f140ed4760dae6827f84b26bf7d1c8d5db17e53", func := "platen/platenlaw10.ParseBack", spec := "parseBack", unfollowed := true, recurses := true, plainKeys := false, apart := false, narrowed := true }
def ParseBackUptoSaid : Prop := parseBackUptoRow.holds Try.pinned (OpenSpec.upto parseBackSpec)

/-- 'platenlaw10.ParseRuns', WHERE WHAT IT READS IS OF BULK AT MOST 1048576: true; the input reads as it did. -/
def parseRunsUptoRow : OpenClaim := { program := "ytolkmjclldjkkaa", sum := "efce353bdc85baeb21a684596f140ed4760dae6827f84b26bf7d1c8d5db17e53", func := "platen/platenlaw10.ParseRuns", spec := "parseRuns", unfollowed := true, recurses := true, plainKeys := false, apart := false, narrowed := true }
def ParseRunsUptoSaid : Prop := parseRunsUptoRow.holds Try.pinned (OpenSpec.upto parseRunsSpec)

/-- 'platenlaw10.ParseBeyond', WHERE WHAT IT READS IS OF BULK AT MOST 1048576: true; the input reads as it did. -/
def parseBeyondUptoRow : OpenClaim := { program := "ytolkmjclldjkkaa", sum := "efce353bdc85baeb21a684596f140ed4760dae6827f84b26bf7d1c8d5db17e53", func := "platen/platenlaw10.ParseBeyond", spec := "parseBeyond", unfollowed := true, recurses := true, plainKeys := false, apart := false, narrowed := true }
def ParseBeyondUptoSaid : Prop := parseBeyondUptoRow.holds Try.pinned (OpenSpec.upto parseBeyondSpec)

end Rows
end Go.Proofs.Ytolkmjclldjkkaa
