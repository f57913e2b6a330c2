-- Written by a program of this session's (wip/mkprint.py) out of the translation; the texts of functions that the program does not take are mine.
import Derived.Test.YtmphbpkhaoaedaaDoorProg
import Derived.Below
import Derived.Deep.Draws
import Derived.Deep.AppendLies
import Derived.Maps.AppendAt
import Derived.OwnWalk
import Derived.Laws.BytesArg
import Derived.Laws.MakeOwn
import Derived.Laws.OwnMore
import Derived.Deep.OwnRows
import Derived.Tactics
import Derived.Lib.ConvBytes
import Derived.Laws.Slices
import Derived.WalkKit
import Derived.KernelRfl
import Derived.RowKit3
import Derived.Deep.LoopGhost
import Derived.Deep.QuietTactic
import Derived.BigQuiet
import Derived.WideLaws
import Derived.Deep.DeepCutAuto
import Derived.Deep.CutBlock
import Derived.Deep.RegionHeld3
import Derived.Laws.Rows
import Derived.Lib.AppendStr
import Derived.ArgAppend
import Derived.Laws.IdiomCopy
import Derived.OrdersHeld
import Derived.Laws.BitsLemmas
import Derived.RowKit
import Derived.Test.YtmphbpkhaoaedaaDoorChWalk11
import Derived.Test.YtmphbpkhaoaedaaDoorWWords
import Derived.Test.YtmphbpkhaoaedaaDoorWLast
import Derived.Test.YtmphbpkhaoaedaaDoorWTab
import Derived.Test.YtmphbpkhaoaedaaDoorWFour
import Derived.Test.YtmphbpkhaoaedaaDoorWQPut
import Derived.Test.YtmphbpkhaoaedaaDoorWApart
import Derived.Test.YtmphbpkhaoaedaaDoorWArr
import Derived.Test.YtmphbpkhaoaedaaDoorWZeros
import Derived.Test.YtmphbpkhaoaedaaDoorWFoot
import Derived.Test.YtmphbpkhaoaedaaDoorWKept
import Derived.Test.YtmphbpkhaoaedaaDoorWShare
import Derived.Test.YtmphbpkhaoaedaaDoorWN
import Derived.Test.YtmphbpkhaoaedaaDoorWFootNe
import Derived.Test.YtmphbpkhaoaedaaDoorWAt
import Derived.Test.YtmphbpkhaoaedaaDoorWEqStruct
import Derived.Test.YtmphbpkhaoaedaaDoorWRepsOne
import Derived.Test.YtmphbpkhaoaedaaDoorWInv
import Derived.Test.YtmphbpkhaoaedaaDoorWInvWords
import Derived.Test.YtmphbpkhaoaedaaDoorWGuard
import Derived.Test.YtmphbpkhaoaedaaDoorWNEv
import Derived.Test.YtmphbpkhaoaedaaDoorWMore
namespace Go.Proofs.YtmphbpkhaoaedaaDoor.PA
open Go.RowKit Go.Proofs.YtmphbpkhaoaedaaDoorW.PrintWords Go.Proofs.YtmphbpkhaoaedaaDoorW.PrintLast Go.Proofs.YtmphbpkhaoaedaaDoorW.PrintMore
attribute [local go_sem] max2_int min2_int max_two min_two max_three min_three max_four min_four   -- for this text's walks alone
set_option linter.unusedVariables false
set_option linter.unusedSimpArgs false



def errW : Option Int → Value
  | none => .nilIface
  | some c => .iface 0 (.int .i64 c)
theorem errW_none : errW none = .nilIface := rfl
theorem errW_some (c : Int) : errW (some c) = .iface 0 (.int .i64 c) := rfl

theorem info5 : (Tryd.prog.info? 5).map (fun i => (i.zero, i.size, i.bytes)) = some (some (.int .u8 0), 1, 1) := by kernel_rfl
-- the values' own types

end Go.Proofs.YtmphbpkhaoaedaaDoor.PA
