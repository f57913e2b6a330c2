import Derived.Test.YthafbimhmfjcoaaDoorWWords
import Derived.Laws.StructEq
namespace Go.Proofs.YthafbimhmfjcoaaDoorW.PrintWords
open Go.RowKit
section
variable {P : Program} {d : Nat} {xs ys : Array Value} {f : Field} {fs : List Field} {a b : Value} {r s : Bool} {w : World}
end
end Go.Proofs.YthafbimhmfjcoaaDoorW.PrintWords
