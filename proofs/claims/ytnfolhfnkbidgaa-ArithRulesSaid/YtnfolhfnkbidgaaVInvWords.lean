-- laid by wip/prune.py (a program of this session's own): of the print's words, what this claim's texts name
import Derived.Test.YtnfolhfnkbidgaaVInv
import Derived.Test.YtnfolhfnkbidgaaVFootNe
namespace Go.Proofs.YtnfolhfnkbidgaaW.PrintWords
open Go.RowKit
end Go.Proofs.YtnfolhfnkbidgaaW.PrintWords
namespace Go.Proofs.YtnfolhfnkbidgaaW.PrintLast
section
variable {ops : Array Oper} {a : Act} {o og : Oper} {g : Nat} {t : Tmp} {u : Bool}
end
end Go.Proofs.YtnfolhfnkbidgaaW.PrintLast
