-- Written by a program of this session's (wip/mkprint.py) out of the translation; the texts of functions that the program does not take are mine.
import Derived.Test.YtihibmcfklddeaaDoorProg
import Derived.Below
import Derived.Deep.Draws
import Derived.Deep.AppendLies
import Derived.Maps.AppendAt
import Derived.OwnWalk
import Derived.Laws.BytesArg
import Derived.Laws.MakeOwn
import Derived.Laws.OwnMore
import Derived.Deep.OwnRows
import Derived.Tactics
import Derived.Lib.ConvBytes
import Derived.Laws.Slices
import Derived.WalkKit
import Derived.KernelRfl
import Derived.RowKit3
import Derived.Deep.LoopGhost
import Derived.Deep.QuietTactic
import Derived.BigQuiet
import Derived.WideLaws
import Derived.Deep.DeepCutAuto
import Derived.Deep.CutBlock
import Derived.Deep.RegionHeld3
import Derived.Laws.Rows
import Derived.Lib.AppendStr
import Derived.ArgAppend
import Derived.Laws.IdiomCopy
import Derived.OrdersHeld
import Derived.Laws.BitsLemmas
import Derived.RowKit
import Derived.Test.YtihibmcfklddeaaDoorGl
import Derived.Test.YtihibmcfklddeaaDoorHGiv
import Derived.Test.YtihibmcfklddeaaDoorHRLoad
import Derived.Test.YtihibmcfklddeaaDoorWWords
import Derived.Test.YtihibmcfklddeaaDoorWLast
import Derived.Test.YtihibmcfklddeaaDoorWTab
import Derived.Test.YtihibmcfklddeaaDoorWFour
import Derived.Test.YtihibmcfklddeaaDoorWQPut
import Derived.Test.YtihibmcfklddeaaDoorWApart
import Derived.Test.YtihibmcfklddeaaDoorWArr
import Derived.Test.YtihibmcfklddeaaDoorWZeros
import Derived.Test.YtihibmcfklddeaaDoorWFoot
import Derived.Test.YtihibmcfklddeaaDoorWKept
import Derived.Test.YtihibmcfklddeaaDoorWShare
import Derived.Test.YtihibmcfklddeaaDoorWN
import Derived.Test.YtihibmcfklddeaaDoorWFootNe
import Derived.Test.YtihibmcfklddeaaDoorWAt
import Derived.Test.YtihibmcfklddeaaDoorWEqStruct
import Derived.Test.YtihibmcfklddeaaDoorWRepsOne
import Derived.Test.YtihibmcfklddeaaDoorWInv
import Derived.Test.YtihibmcfklddeaaDoorWInvWords
import Derived.Test.YtihibmcfklddeaaDoorWGuard
import Derived.Test.YtihibmcfklddeaaDoorWNEv
import Derived.Test.YtihibmcfklddeaaDoorWMore
namespace Go.Proofs.YtihibmcfklddeaaDoor.PL
open Go.RowKit Go.Proofs.YtihibmcfklddeaaDoorW.PrintWords Go.Proofs.YtihibmcfklddeaaDoorW.PrintLast Go.Proofs.YtihibmcfklddeaaDoorW.PrintMore
attribute [local go_sem] max2_int min2_int max_two min_two max_three min_three max_four min_four   -- for this text's walks alone
set_option linter.unusedVariables false
set_option linter.unusedSimpArgs false



def errW : Option Int → Value
  | none => .nilIface
  | some c => .iface 0 (.int .i64 c)
theorem errW_none : errW none = .nilIface := rfl
theorem errW_some (c : Int) : errW (some c) = .iface 0 (.int .i64 c) := rfl

-- the values' own types

end Go.Proofs.YtihibmcfklddeaaDoor.PL
