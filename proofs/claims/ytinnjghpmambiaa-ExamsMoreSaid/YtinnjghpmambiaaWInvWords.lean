import Derived.Test.YtinnjghpmambiaaWInv
import Derived.Test.YtinnjghpmambiaaWFootNe
namespace Go.Proofs.YtinnjghpmambiaaW.PrintWords
open Go.RowKit
end Go.Proofs.YtinnjghpmambiaaW.PrintWords
namespace Go.Proofs.YtinnjghpmambiaaW.PrintLast
section
variable {ops : Array Oper} {a : Act} {o og : Oper} {g : Nat} {t : Tmp} {u : Bool}
end
end Go.Proofs.YtinnjghpmambiaaW.PrintLast

