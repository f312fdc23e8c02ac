-- laid by wip/prune.py (a program of this session's own): of the print's words, what this claim's texts name
import Derived.Test.YtnfolhfnkbidgaaVWords
namespace Go.Proofs.YtnfolhfnkbidgaaW.PrintWords
open Go.RowKit
section
variable {P : Program} {ops : Array Oper} {rest : List Oper} {o : Oper} {a : Act} {Q : Exit → Act → World → Prop} {W : World}
end
end Go.Proofs.YtnfolhfnkbidgaaW.PrintWords
