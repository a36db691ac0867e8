import Derived.Test.YthgmjhidigoneaaVInv
import Derived.Test.YthgmjhidigoneaaVFootNe
namespace Go.Proofs.YthgmjhidigoneaaW.PrintWords
open Go.RowKit
end Go.Proofs.YthgmjhidigoneaaW.PrintWords
namespace Go.Proofs.YthgmjhidigoneaaW.PrintLast
section
variable {ops : Array Oper} {a : Act} {o og : Oper} {g : Nat} {t : Tmp} {u : Bool}
end
end Go.Proofs.YthgmjhidigoneaaW.PrintLast
