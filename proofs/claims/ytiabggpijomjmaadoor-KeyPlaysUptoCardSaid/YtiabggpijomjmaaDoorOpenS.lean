import Derived.Test.YtiabggpijomjmaaDoorOpen
import Derived.Test.YtiabggpijomjmaaDoorPx0
import Derived.KernelRfl
namespace Go.Proofs.YtiabggpijomjmaaDoor
open Go.WideShapes Go.RowKit
open Print Go.Proofs.YtiabggpijomjmaaDoorW.PrintWords
def good53 (x : S53) : Prop := (Lit.int .i64 x.f0).wf = true ∧ (Lit.int .i64 x.f1).wf = true ∧ x.f2.size ≤ maxLen
theorem opens53 : Opens Tryd.prog 53 k53 good53 :=
  (Opens.iso (Opens.struct Tryd.underlying53 rfl (by kernel_rfl) (OpensFs.cons rfl (by kernel_rfl) (Opens.int Tryd.underlying3) (OpensFs.cons rfl (by kernel_rfl) (Opens.int Tryd.underlying3) (OpensFs.one rfl (by kernel_rfl) (Opens.string Tryd.underlying9))))) (fun x : S53 => (x.f0, x.f1, x.f2)) (fun p => ⟨p.1, p.2.1, p.2.2⟩) (fun _ => rfl)).mono (fun _ h => h)
end Go.Proofs.YtiabggpijomjmaaDoor
