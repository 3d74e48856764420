-- WRITTEN BY A PROGRAM of this repo (wip/tools/given.py), which drives the kit's print over functions that are given by hand. Lean checks it.
import Derived.Test.YtjgcaodgklfpmaaProg
import Derived.Below
import Derived.Deep.Draws
import Derived.Deep.AppendLies
import Derived.Maps.AppendAt
import Derived.OwnWalk
import Derived.Laws.BytesArg
import Derived.Laws.MakeOwn
import Derived.Laws.OwnMore
import Derived.Deep.OwnRows
import Derived.Tactics
import Derived.Lib.ConvBytes
import Derived.Laws.Slices
import Derived.WalkKit
import Derived.KernelRfl
import Derived.RowKit3
import Derived.Deep.LoopGhost
import Derived.Deep.QuietTactic
import Derived.BigQuiet
import Derived.WideLaws
import Derived.Deep.DeepCutAuto
import Derived.Deep.CutBlock
import Derived.Deep.RegionHeld3
import Derived.Laws.Rows
import Derived.Lib.AppendStr
import Derived.ArgAppend
import Derived.Laws.IdiomCopy
import Derived.OrdersHeld
import Derived.Laws.BitsLemmas
import Derived.RowKit
import Derived.WalkMore
import Derived.Lib.Hide
import Derived.Test.YtjgcaodgklfpmaaWWords
import Derived.Test.YtjgcaodgklfpmaaWLast
import Derived.Test.YtjgcaodgklfpmaaWTab
import Derived.Test.YtjgcaodgklfpmaaWFour
import Derived.Test.YtjgcaodgklfpmaaWQPut
import Derived.Test.YtjgcaodgklfpmaaWApart
import Derived.Test.YtjgcaodgklfpmaaWArr
import Derived.Test.YtjgcaodgklfpmaaWZeros
import Derived.Test.YtjgcaodgklfpmaaWFoot
import Derived.Test.YtjgcaodgklfpmaaWKept
import Derived.Test.YtjgcaodgklfpmaaWShare
import Derived.Test.YtjgcaodgklfpmaaWN
import Derived.Test.YtjgcaodgklfpmaaWFootNe
import Derived.Test.YtjgcaodgklfpmaaWAt
import Derived.Test.YtjgcaodgklfpmaaWEqStruct
import Derived.Test.YtjgcaodgklfpmaaWRepsOne
import Derived.Test.YtjgcaodgklfpmaaWInv
import Derived.Test.YtjgcaodgklfpmaaWInvWords
import Derived.Test.YtjgcaodgklfpmaaWGuard
import Derived.Test.YtjgcaodgklfpmaaWNEv
import Derived.Test.YtjgcaodgklfpmaaWMore
namespace Go.Proofs.Ytjgcaodgklfpmaa.PC
open Go.RowKit Go.Proofs.YtjgcaodgklfpmaaW.PrintWords Go.Proofs.YtjgcaodgklfpmaaW.PrintLast Go.Proofs.YtjgcaodgklfpmaaW.PrintMore
attribute [local go_sem] max2_int min2_int max_two min_two max_three min_three max_four min_four   -- for this text's walks alone
set_option linter.unusedVariables false
set_option linter.unusedSimpArgs false



def errW : Option Int → Value
  | none => .nilIface
  | some c => .iface 0 (.int .i64 c)
theorem errW_none : errW none = .nilIface := rfl
theorem errW_some (c : Int) : errW (some c) = .iface 0 (.int .i64 c) := rfl

-- the values' own types

end Go.Proofs.Ytjgcaodgklfpmaa.PC
