import Derived.Test.YthafbimhmfjcoaaDoorWInv
import Derived.Test.YthafbimhmfjcoaaDoorWFootNe
namespace Go.Proofs.YthafbimhmfjcoaaDoorW.PrintWords
open Go.RowKit
end Go.Proofs.YthafbimhmfjcoaaDoorW.PrintWords
namespace Go.Proofs.YthafbimhmfjcoaaDoorW.PrintLast
section
variable {ops : Array Oper} {a : Act} {o og : Oper} {g : Nat} {t : Tmp} {u : Bool}
end
end Go.Proofs.YthafbimhmfjcoaaDoorW.PrintLast
