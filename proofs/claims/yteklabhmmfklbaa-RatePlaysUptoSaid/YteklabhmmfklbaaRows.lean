/-
  No cell of these rows narrows 'for every input' (looked for: loops, veiled, ifaces, maps, wideKeys, modest, calm, conditions, laid).
  DERIVED. THE GIVEN ROWS OF THIS SEAT. 4 by the template 'for every input the law returns true; each argument reads behind the call as it read before'; 0 by the template 'total and deterministic' (their statements: YteklabhmmfklbaaTotals.lean).
  GIVEN WITH THE SEED: the statements are not yours to turn. If you find one false, say at which input.
  Laid BY PROGRAM, IN A SANDBOX (cutbox-rows.mjs): the forced cells as the released guide's own fill.sh prints them over the translation a74f2e50ee78c0d7… (all of the seat's roots in one cut). By AI agents, Wed Nov 11 2026. No macro, syntax, notation, axiom, sorry.
-/
import Derived.Test.YteklabhmmfklbaaChecked
import GoSem.Claim
import GoSem.ClaimJoined
import GoSem.ClaimMapViews
import Derived.JoinedTies
import Derived.KernelRfl
namespace Go.Proofs.Yteklabhmmfklbaa
/- THE CELL 'sum', in the pinned program and in every row, IS THE sha256 OF THE DUMP (.gsa) THAT YteklabhmmfklbaaProg.lean LOADS. Nothing in Lean hashes anything: it is a label: what it is worth is what the hold of that sum in a sandbox is worth. -/
noncomputable def Try.pinned : Pinned := { name := "yteklabhmmfklbaa", sum := "a74f2e50ee78c0d70b2e461761f4fe08bdf8553dd90780543760159ea16d0dd5", checked := Try.checked }
namespace Rows
def none {H : Type} : Left H := { results := [], args := [] }

/-- 'marqueelaw20.RateSplit': WHATEVER THE INPUT: true; the input reads as it did. -/
def rateSplitSpec : ChangeSpec := { name := "rateSplit", fn := fun _ => fun
  | [d1, d2, d3] => { results := [.lit (.bool true)], args := [d1, d2, d3] }
  | _ => none }
def rateSplitRow : OpenClaim := { program := "yteklabhmmfklbaa", sum := "a74f2e50ee78c0d70b2e461761f4fe08bdf8553dd90780543760159ea16d0dd5", func := "marquee/marqueelaw20.RateSplit", spec := "rateSplit", apart := false }
def RateSplitSaid : Prop := rateSplitRow.holds Try.pinned (OpenSpec.ofChange rateSplitSpec)

/-- ITS FALSE NEIGHBOUR: 'it returns false'. Refute it at one input. -/
def rateSplitWrong : ChangeSpec := { name := "rateSplit", fn := fun _ => fun
  | [d1, d2, d3] => { results := [.lit (.bool false)], args := [d1, d2, d3] }
  | _ => none }
def RateSplitWrongFalsely : Prop := rateSplitRow.holds Try.pinned (OpenSpec.ofChange rateSplitWrong)

/-- 'marqueelaw20.RateLoses': WHATEVER THE INPUT: true; the input reads as it did. -/
def rateLosesSpec : ChangeSpec := { name := "rateLoses", fn := fun _ => fun
  | [d1, d2, d3] => { results := [.lit (.bool true)], args := [d1, d2, d3] }
  | _ => none }
def rateLosesRow : OpenClaim := { program := "yteklabhmmfklbaa", sum := "a74f2e50ee78c0d70b2e461761f4fe08bdf8553dd90780543760159ea16d0dd5", func := "marquee/marqueelaw20.RateLoses", spec := "rateLoses", apart := false }
def RateLosesSaid : Prop := rateLosesRow.holds Try.pinned (OpenSpec.ofChange rateLosesSpec)

/-- ITS FALSE NEIGHBOUR: 'it returns false'. Refute it at one input. -/
def rateLosesWrong : ChangeSpec := { name := "rateLoses", fn := fun _ => fun
  | [d1, d2, d3] => { results := [.lit (.bool false)], args := [d1, d2, d3] }
  | _ => none }
def RateLosesWrongFalsely : Prop := rateLosesRow.holds Try.pinned (OpenSpec.ofChange rateLosesWrong)

/-- 'marqueelaw20.RatePlays': WHATEVER THE INPUT: true; the input reads as it did. -/
def ratePlaysSpec : ChangeSpec := { name := "ratePlays", fn := fun _ => fun
  | [d1, d2, d3] => { results := [.lit (.bool true)], args := [d1, d2, d3] }
  | _ => none }
def ratePlaysRow : OpenClaim := { program := "yteklabhmmfklbaa", sum := "a74f2e50ee78c0d70b2e461761f4fe08bdf8553dd90780543760159ea16d0dd5", func := "marquee/marqueelaw20.RatePlays", spec := "ratePlays", apart := false }
def RatePlaysSaid : Prop := ratePlaysRow.holds Try.pinned (OpenSpec.ofChange ratePlaysSpec)

/-- ITS FALSE NEIGHBOUR: 'it returns false'. Refute it at one input. -/
def ratePlaysWrong : ChangeSpec := { name := "ratePlays", fn := fun _ => fun
  | [d1, d2, d3] => { results := [.lit (.bool false)], args := [d1, d2, d3] }
  | _ => none }
def RatePlaysWrongFalsely : Prop := ratePlaysRow.holds Try.pinned (OpenSpec.ofChange ratePlaysWrong)

/-- 'marqueelaw20.RateNobody': WHATEVER THE INPUT: true; the input reads as it did. -/
def rateNobodySpec : ChangeSpec := { name := "rateNobody", fn := fun _ => fun
  | [d] => { results := [.lit (.bool true)], args := [d] }
  | _ => none }
def rateNobodyRow : OpenClaim := { program := "yteklabhmmfklbaa", sum := "a74f2e50ee78c0d70b2e461761f4fe08bdf8553dd90780543760159ea16d0dd5", func := "marquee/marqueelaw20.RateNobody", spec := "rateNobody", apart := false }
def RateNobodySaid : Prop := rateNobodyRow.holds Try.pinned (OpenSpec.ofChange rateNobodySpec)

/-- ITS FALSE NEIGHBOUR: 'it returns false'. Refute it at one input. -/
def rateNobodyWrong : ChangeSpec := { name := "rateNobody", fn := fun _ => fun
  | [d] => { results := [.lit (.bool false)], args := [d] }
  | _ => none }
def RateNobodyWrongFalsely : Prop := rateNobodyRow.holds Try.pinned (OpenSpec.ofChange rateNobodyWrong)

/- THE SECOND FORM. 'bulk': how many values and letters a reading holds, each counted each time it is reached (what is shared counts as often as it is met; a slice's spare places count too). A statement '..UptoSaid' is the law's where the arguments, and the package variables that the reading takes, are together of bulk at most 1048576: NARROWER than '..Said'. Prove '..Said' where nothing that the law and all that it calls make is longer than what came in: it says more and counts as full. Else prove '..UptoSaid'. A law counts once. -/
mutual
def uptoBulk {H : Type} : DataW H → Nat
  | .lit (.string bytes) => bytes.length + 1
  | .lit _ => 1
  | .nil => 1
  | .ptr d => uptoBulk d + 1
  | .slice elems spare => uptoBulkAll elems + uptoBulkAll spare + 1
  | .agg parts => uptoBulkAll parts + 1
  | .iface _ d => uptoBulk d + 1
  | .map entries => uptoBulkEntries entries + 1
  | .held _ => 1
def uptoBulkAll {H : Type} : List (DataW H) → Nat
  | [] => 0
  | d :: r => uptoBulk d + uptoBulkAll r
def uptoBulkEntries {H : Type} : List (Lit × DataW H) → Nat
  | [] => 0
  | x :: r => uptoBulkEntry x + uptoBulkEntries r
def uptoBulkEntry {H : Type} : Lit × DataW H → Nat
  | (.string bytes, d) => bytes.length + uptoBulk d + 1
  | (_, d) => uptoBulk d + 1
 end
def uptoSmall : (H : Type) → List (DataW H) → Bool := fun _ ds => decide (uptoBulkAll ds ≤ 1048576)
def OpenSpec.upto (s : _root_.Go.ChangeSpec) : _root_.Go.OpenSpec := { _root_.Go.OpenSpec.ofChange s with cond := some uptoSmall }

/-- 'marqueelaw20.RateSplit', WHERE WHAT IT READS IS OF BULK AT MOST 1048576: true; the input reads as it did. -/
def rateSplitUptoRow : OpenClaim := { program := "yteklabhmmfklbaa", sum := "a74f2e50ee78c0d70b2e461761f4fe08bdf8553dd90780543760159ea16d0dd5", func := "marquee/marqueelaw20.RateSplit", spec := "rateSplit", apart := false, narrowed := true }
def RateSplitUptoSaid : Prop := rateSplitUptoRow.holds Try.pinned (OpenSpec.upto rateSplitSpec)

/-- 'marqueelaw20.RateLoses', WHERE WHAT IT READS IS OF BULK AT MOST 1048576: true; the input reads as it did. -/
def rateLosesUptoRow : OpenClaim := { program := "yteklabhmmfklbaa", sum := "a74f2e50ee78c0d70b2e461761f4fe08bdf8553dd90780543760159ea16d0dd5", func := "marquee/marqueelaw20.RateLoses", spec := "rateLoses", apart := false, narrowed := true }
def RateLosesUptoSaid : Prop := rateLosesUptoRow.holds Try.pinned (OpenSpec.upto rateLosesSpec)

/-- 'marqueelaw20.RatePlays', WHERE WHAT IT READS IS OF BULK AT MOST 1048576: true; the input reads as it did. -/
def ratePlaysUptoRow : OpenClaim := { program := "yteklabhmmfklbaa", sum := "a74f2e50ee78c0d70b2e461761f4fe08bdf8553dd90780543760159ea16d0dd5", func := "marquee/marqueelaw20.RatePlays", spec := "ratePlays", apart := false, narrowed := true }
def RatePlaysUptoSaid : Prop := ratePlaysUptoRow.holds Try.pinned (OpenSpec.upto ratePlaysSpec)

/-- 'marqueelaw20.RateNobody', WHERE WHAT IT READS IS OF BULK AT MOST 1048576: true; the input reads as it did. -/
def rateNobodyUptoRow : OpenClaim := { program := "yteklabhmmfklbaa", sum := "a74f2e50ee78c0d70b2e461761f4fe08bdf8553dd90780543760159ea16d0dd5", func := "marquee/marqueelaw20.RateNobody", spec := "rateNobody", apart := false, narrowed := true }
def RateNobodyUptoSaid : Prop := rateNobodyUptoRow.holds Try.pinned (OpenSpec.upto rateNobodySpec)

end Rows
end Go.Proofs.Yteklabhmmfklbaa
