import Derived.Test.YtiabggpijomjmaaDoorMA
namespace Go.Proofs.YtiabggpijomjmaaDoor.Print
open Go.RowKit Go.Proofs.YtiabggpijomjmaaDoorW.PrintWords Go.Proofs.YtiabggpijomjmaaDoorW.PrintLast Go.Proofs.YtiabggpijomjmaaDoorW.PrintMore
def marqueelaw04_sure.f : Option Bool := some true
theorem marqueelaw04_sure.calls (r : Bool) (w : World) (hld : LaidW w) (h : marqueelaw04_sure.f = some r) :
    Calls Tryd.prog 12 #[] w fun e w' => e = .returned (.bool r) ∧ Below w.heap.size w w' := by
  obtain rfl := Option.some.inj h
  exact sure_any w hld
end Go.Proofs.YtiabggpijomjmaaDoor.Print
