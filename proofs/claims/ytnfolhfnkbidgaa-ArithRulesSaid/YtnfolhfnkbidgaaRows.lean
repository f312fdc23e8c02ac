/-
  No cell of these rows narrows 'for every input' (looked for: loops, veiled, ifaces, maps, wideKeys, modest, calm, conditions, laid).
  DERIVED. THE GIVEN ROWS OF THIS SEAT. 4 by the template 'for every input the law returns true; each argument reads behind the call as it read before'; 0 by the template 'total and deterministic' (their statements: YtnfolhfnkbidgaaTotals.lean).
  GIVEN WITH THE SEED: the statements are not yours to turn. If you find one false, say at which input.
  Laid BY PROGRAM, IN A SANDBOX (cutbox-rows.mjs): the forced cells as the released guide's own fill.sh prints them over the translation 8e60591f55d3cb1b… (all of the seat's roots in one cut). By AI agents, Wed Nov 11 2026. No macro, syntax, notation, axiom, sorry.
-/
import Derived.Test.YtnfolhfnkbidgaaChecked
import GoSem.Claim
import GoSem.ClaimJoined
import GoSem.ClaimMapViews
import Derived.JoinedTies
import Derived.KernelRfl
namespace Go.Proofs.Ytnfolhfnkbidgaa
/- THE CELL 'sum', in the pinned program and in every row, IS THE sha256 OF THE DUMP (.gsa) THAT YtnfolhfnkbidgaaProg.lean LOADS. Nothing in Lean hashes anything: it is a label: what it is worth is what the hold of that sum in a sandbox is worth. -/
noncomputable def Try.pinned : Pinned := { name := "ytnfolhfnkbidgaa", sum := "8e60591f55d3cb1bb879e7b5854f36fa54e70b914f444af041d7c4c2149ac0c4", checked := Try.checked }
namespace Rows
def none {H : Type} : Left H := { results := [], args := [] }

/-- 'marqueelaw02.ArithWide': WHATEVER THE INPUT: true; the input reads as it did. -/
def arithWideSpec : ChangeSpec := { name := "arithWide", fn := fun _ => fun
  | [d] => { results := [.lit (.bool true)], args := [d] }
  | _ => none }
def arithWideRow : OpenClaim := { program := "ytnfolhfnkbidgaa", sum := "8e60591f55d3cb1bb879e7b5854f36fa54e70b914f444af041d7c4c2149ac0c4", func := "marquee/marqueelaw02.ArithWide", spec := "arithWide", unfollowed := true, recurses := true, named := ["math/bits.divideError", "math/bits.overflowError"], apart := false }
def ArithWideSaid : Prop := arithWideRow.holds Try.pinned (OpenSpec.ofChange arithWideSpec)

/-- ITS FALSE NEIGHBOUR: 'it returns false'. Refute it at one input. -/
def arithWideWrong : ChangeSpec := { name := "arithWide", fn := fun _ => fun
  | [d] => { results := [.lit (.bool false)], args := [d] }
  | _ => none }
def ArithWideWrongFalsely : Prop := arithWideRow.holds Try.pinned (OpenSpec.ofChange arithWideWrong)

/-- 'marqueelaw02.ArithRules': WHATEVER THE INPUT: true; the input reads as it did. -/
def arithRulesSpec : ChangeSpec := { name := "arithRules", fn := fun _ => fun
  | [d1, d2, d3] => { results := [.lit (.bool true)], args := [d1, d2, d3] }
  | _ => none }
def arithRulesRow : OpenClaim := { program := "ytnfolhfnkbidgaa", sum := "8e60591f55d3cb1bb879e7b5854f36fa54e70b914f444af041d7c4c2149ac0c4", func := "marquee/marqueelaw02.ArithRules", spec := "arithRules", unfollowed := true, recurses := true, named := ["math/bits.divideError", "math/bits.overflowError"], apart := false }
def ArithRulesSaid : Prop := arithRulesRow.holds Try.pinned (OpenSpec.ofChange arithRulesSpec)

/-- ITS FALSE NEIGHBOUR: 'it returns false'. Refute it at one input. -/
def arithRulesWrong : ChangeSpec := { name := "arithRules", fn := fun _ => fun
  | [d1, d2, d3] => { results := [.lit (.bool false)], args := [d1, d2, d3] }
  | _ => none }
def ArithRulesWrongFalsely : Prop := arithRulesRow.holds Try.pinned (OpenSpec.ofChange arithRulesWrong)

/-- 'marqueelaw02.ArithTurns': WHATEVER THE INPUT: true; the input reads as it did. -/
def arithTurnsSpec : ChangeSpec := { name := "arithTurns", fn := fun _ => fun
  | [d] => { results := [.lit (.bool true)], args := [d] }
  | _ => none }
def arithTurnsRow : OpenClaim := { program := "ytnfolhfnkbidgaa", sum := "8e60591f55d3cb1bb879e7b5854f36fa54e70b914f444af041d7c4c2149ac0c4", func := "marquee/marqueelaw02.ArithTurns", spec := "arithTurns", unfollowed := true, recurses := true, named := ["math/bits.divideError", "math/bits.overflowError"], apart := false }
def ArithTurnsSaid : Prop := arithTurnsRow.holds Try.pinned (OpenSpec.ofChange arithTurnsSpec)

/-- ITS FALSE NEIGHBOUR: 'it returns false'. Refute it at one input. -/
def arithTurnsWrong : ChangeSpec := { name := "arithTurns", fn := fun _ => fun
  | [d] => { results := [.lit (.bool false)], args := [d] }
  | _ => none }
def ArithTurnsWrongFalsely : Prop := arithTurnsRow.holds Try.pinned (OpenSpec.ofChange arithTurnsWrong)

/-- 'marqueelaw02.ArithAll': WHATEVER THE INPUT: true; the input reads as it did. -/
def arithAllSpec : ChangeSpec := { name := "arithAll", fn := fun _ => fun
  | [d1, d2] => { results := [.lit (.bool true)], args := [d1, d2] }
  | _ => none }
def arithAllRow : OpenClaim := { program := "ytnfolhfnkbidgaa", sum := "8e60591f55d3cb1bb879e7b5854f36fa54e70b914f444af041d7c4c2149ac0c4", func := "marquee/marqueelaw02.ArithAll", spec := "arithAll", unfollowed := true, recurses := true, named := ["math/bits.divideError", "math/bits.overflowError"], apart := false }
def ArithAllSaid : Prop := arithAllRow.holds Try.pinned (OpenSpec.ofChange arithAllSpec)

/-- ITS FALSE NEIGHBOUR: 'it returns false'. Refute it at one input. -/
def arithAllWrong : ChangeSpec := { name := "arithAll", fn := fun _ => fun
  | [d1, d2] => { results := [.lit (.bool false)], args := [d1, d2] }
  | _ => none }
def ArithAllWrongFalsely : Prop := arithAllRow.holds Try.pinned (OpenSpec.ofChange arithAllWrong)

/- THE SECOND FORM. 'bulk': how many values and letters a reading holds, each counted each time it is reached (what is shared counts as often as it is met; a slice's spare places count too). A statement '..UptoSaid' is the law's where the arguments, and the package variables that the reading takes, are together of bulk at most 1048576: NARROWER than '..Said'. Prove '..Said' where nothing that the law and all that it calls make is longer than what came in: it says more and counts as full. Else prove '..UptoSaid'. A law counts once. -/
mutual
def uptoBulk {H : Type} : DataW H → Nat
  | .lit (.string bytes) => bytes.length + 1
  | .lit _ => 1
  | .nil => 1
  | .ptr d => uptoBulk d + 1
  | .slice elems spare => uptoBulkAll elems + uptoBulkAll spare + 1
  | .agg parts => uptoBulkAll parts + 1
  | .iface _ d => uptoBulk d + 1
  | .map entries => uptoBulkEntries entries + 1
  | .held _ => 1
def uptoBulkAll {H : Type} : List (DataW H) → Nat
  | [] => 0
  | d :: r => uptoBulk d + uptoBulkAll r
def uptoBulkEntries {H : Type} : List (Lit × DataW H) → Nat
  | [] => 0
  | x :: r => uptoBulkEntry x + uptoBulkEntries r
def uptoBulkEntry {H : Type} : Lit × DataW H → Nat
  | (.string bytes, d) => bytes.length + uptoBulk d + 1
  | (_, d) => uptoBulk d + 1
 end
def uptoSmall : (H : Type) → List (DataW H) → Bool := fun _ ds => decide (uptoBulkAll ds ≤ 1048576)
def OpenSpec.upto (s : _root_.Go.ChangeSpec) : _root_.Go.OpenSpec := { _root_.Go.OpenSpec.ofChange s with cond := some uptoSmall }

/-- 'marqueelaw02.ArithWide', WHERE WHAT IT READS IS OF BULK AT MOST 1048576: true; the input reads as it did. -/
def arithWideUptoRow : OpenClaim := { program := "ytnfolhfnkbidgaa", sum := "8e60591f55d3cb1bb879e7b5854f36fa54e70b914f444af041d7c4c2149ac0c4", func := "marquee/marqueelaw02.ArithWide", spec := "arithWide", unfollowed := true, recurses := true, named := ["math/bits.divideError", "math/bits.overflowError"], apart := false, narrowed := true }
def ArithWideUptoSaid : Prop := arithWideUptoRow.holds Try.pinned (OpenSpec.upto arithWideSpec)

/-- 'marqueelaw02.ArithRules', WHERE WHAT IT READS IS OF BULK AT MOST 1048576: true; the input reads as it did. -/
def arithRulesUptoRow : OpenClaim := { program := "ytnfolhfnkbidgaa", sum := "8e60591f55d3cb1bb879e7b5854f36fa54e70b914f444af041d7c4c2149ac0c4", func := "marquee/marqueelaw02.ArithRules", spec := "arithRules", unfollowed := true, recurses := true, named := ["math/bits.divideError", "math/bits.overflowError"], apart := false, narrowed := true }
def ArithRulesUptoSaid : Prop := arithRulesUptoRow.holds Try.pinned (OpenSpec.upto arithRulesSpec)

/-- 'marqueelaw02.ArithTurns', WHERE WHAT IT READS IS OF BULK AT MOST 1048576: true; the input reads as it did. -/
def arithTurnsUptoRow : OpenClaim := { program := "ytnfolhfnkbidgaa", sum := "8e60591f55d3cb1bb879e7b5854f36fa54e70b914f444af041d7c4c2149ac0c4", func := "marquee/marqueelaw02.ArithTurns", spec := "arithTurns", unfollowed := true, recurses := true, named := ["math/bits.divideError", "math/bits.overflowError"], apart := false, narrowed := true }
def ArithTurnsUptoSaid : Prop := arithTurnsUptoRow.holds Try.pinned (OpenSpec.upto arithTurnsSpec)

/-- 'marqueelaw02.ArithAll', WHERE WHAT IT READS IS OF BULK AT MOST 1048576: true; the input reads as it did. -/
def arithAllUptoRow : OpenClaim := { program := "ytnfolhfnkbidgaa", sum := "8e60591f55d3cb1bb879e7b5854f36fa54e70b914f444af041d7c4c2149ac0c4", func := "marquee/marqueelaw02.ArithAll", spec := "arithAll", unfollowed := true, recurses := true, named := ["math/bits.divideError", "math/bits.overflowError"], apart := false, narrowed := true }
def ArithAllUptoSaid : Prop := arithAllUptoRow.holds Try.pinned (OpenSpec.upto arithAllSpec)

end Rows
end Go.Proofs.Ytnfolhfnkbidgaa
