-- laid by wip/prune.py (a program of this session's own): of the print's words, what this claim's texts name
import Derived.Test.YtnfolhfnkbidgaaVN
namespace Go.Proofs.YtnfolhfnkbidgaaW.PrintWords
open Go.RowKit
namespace Kd
section
variable {α : Type} {d : Kd α} {W : World} {g n : Nat} {S ok : Nat → Prop} {A : Option Addr} {ad : Addr} {xs : List α}
end
end Kd
end Go.Proofs.YtnfolhfnkbidgaaW.PrintWords
