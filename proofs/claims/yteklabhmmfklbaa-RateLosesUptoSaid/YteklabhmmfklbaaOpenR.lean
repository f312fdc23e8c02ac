import Derived.Test.YteklabhmmfklbaaPx0
import Derived.Test.YteklabhmmfklbaaOpen
import Derived.Carry
import Derived.WalkKit
import Derived.ProofKit
import Derived.OpenShut
import Derived.ShutString
import Derived.ChangeOld
import Derived.Below
import Derived.SizedLaws
namespace Go.Proofs.Yteklabhmmfklbaa
open Go.ChangeShapes Go.WideShapes Go.ChangeAt Go.RowKit Print
open Go.ChangeMaps (open_string shut_string)
open Go.Proofs.YteklabhmmfklbaaW.PrintWords
set_option linter.unusedVariables false
def good68 (x : S68) : Prop := (Lit.int .i64 x.f0).wf = true ∧ (Lit.int .i64 x.f1).wf = true ∧ x.f2.size ≤ maxLen
theorem opens68 : Opens Try.prog 68 k68 good68 :=
  (Opens.iso (Opens.struct Try.underlying68 rfl (by kernel_rfl) (OpensFs.cons rfl (by kernel_rfl) (Opens.int Try.underlying3) (OpensFs.cons rfl (by kernel_rfl) (Opens.int Try.underlying3) (OpensFs.one rfl (by kernel_rfl) (Opens.string Try.underlying9))))) (fun x : S68 => (x.f0, x.f1, x.f2)) (fun p => ⟨p.1, p.2.1, p.2.2⟩) (fun _ => rfl)).mono (fun _ h => h)
theorem opens29 : Opens Try.prog 29 (Kd.slice 61 (Kd.slice 68 k68)) (fun _ => True) :=
  (Opens.slice Try.underlying29 (by kernel_rfl) (Opens.slice Try.underlying61 (by kernel_rfl) opens68)).mono (fun _ _ => trivial)
theorem opens31 : Opens Try.prog 31 k31 (fun _ => True) :=
  (Opens.iso (Opens.struct Try.underlying31 rfl (by kernel_rfl) (OpensFs.cons rfl (by kernel_rfl) opens29 (OpensFs.one rfl (by kernel_rfl) opens29))) (fun x : S31 => (x.f0, x.f1)) (fun p => ⟨p.1, p.2⟩) (fun _ => rfl)).mono (fun _ _ => trivial)
abbrev k33 : Kd (Bool × Int × Int × S31 × List (List S68)) := Kd.pair Kd.bool (Kd.pair (Kd.int .i64) (Kd.pair (Kd.int .i64) (Kd.pair k31 (Kd.slice 61 (Kd.slice 68 k68)))))
theorem opens33 : Opens Try.prog 33 k33 (fun x => (Lit.int .i64 x.2.1).wf = true ∧ (Lit.int .i64 x.2.2.1).wf = true) :=
  (Opens.struct Try.underlying33 rfl (by kernel_rfl) (OpensFs.cons rfl (by kernel_rfl) (Opens.bool Try.underlying4) (OpensFs.cons rfl (by kernel_rfl) (Opens.int Try.underlying3) (OpensFs.cons rfl (by kernel_rfl) (Opens.int Try.underlying3) (OpensFs.cons rfl (by kernel_rfl) opens31 (OpensFs.one rfl (by kernel_rfl) opens29)))))).mono (fun _ h => ⟨h.2.1, h.2.2.1⟩)
theorem k33_open {w : World} {x : Bool × Int × Int × S31 × List (List S68)} {cs : List Value} (h : k33.K w x cs) : ∃ A0 c0 A1 c1 A2 c2, cs = [.bool x.1, .int .i64 x.2.1, .int .i64 x.2.2.1, .slice A0 x.2.2.2.1.f0.length c0, .slice A1 x.2.2.2.1.f1.length c1, .slice A2 x.2.2.2.2.length c2] ∧
    x.2.2.2.1.f0.length ≤ c0 ∧ (Kd.slice 68 k68).C w A0 x.2.2.2.1.f0.length x.2.2.2.1.f0 ∧ x.2.2.2.1.f1.length ≤ c1 ∧ (Kd.slice 68 k68).C w A1 x.2.2.2.1.f1.length x.2.2.2.1.f1 ∧ x.2.2.2.2.length ≤ c2 ∧ (Kd.slice 68 k68).C w A2 x.2.2.2.2.length x.2.2.2.2 := by
  obtain ⟨a, r, rfl, ha, b, r2, rfl, hb, c, r3, rfl, hc, d, r4, rfl, hd, he⟩ := h
  obtain ⟨A0, c0, A1, c1, rfl, l0, g0, l1, g1⟩ := k31_open hd
  obtain ⟨A2, c2, rfl, l2, g2⟩ := he
  have ha' : a = [.bool x.1] := ha
  have hb' : b = [.int .i64 x.2.1] := hb
  have hc' : c = [.int .i64 x.2.2.1] := hc
  subst ha' hb' hc'
  exact ⟨A0, c0, A1, c1, A2, c2, rfl, l0, g0, l1, g1, l2, g2⟩
theorem i64_of {n : Int} (h : (Lit.int .i64 n).wf = true) : -9223372036854775808 ≤ n ∧ n ≤ 9223372036854775807 := by
  simp [Lit.wf, IntKind.min, IntKind.max, IntKind.signed, IntKind.bits] at h
  omega
theorem laidOut : laidOutB Try.prog = true := by kernel_rfl
theorem own : ownKnob Try.prog.godebug = none := by kernel_rfl
end Go.Proofs.Yteklabhmmfklbaa
