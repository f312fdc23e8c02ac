-- laid by wip/prune.py (a program of this session's own): of the print's words, what this claim's texts name
import Derived.Test.YtnfolhfnkbidgaaVTab
namespace Go.Proofs.YtnfolhfnkbidgaaW.PrintLast
section
variable {P : Program} {ops : Array Oper} {Q : Exit → Act → World → Prop} {md : Region.Mode} {S : World → Prop} {ds : List Nat} {T : Bool × List (List Nat × List Nat)}
end
end Go.Proofs.YtnfolhfnkbidgaaW.PrintLast
