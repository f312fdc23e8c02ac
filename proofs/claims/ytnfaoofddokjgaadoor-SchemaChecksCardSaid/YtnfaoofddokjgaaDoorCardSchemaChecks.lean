/-
  Which schemas may be and which texts are names: for every schema and every text schema.Check, schema.Name and schema.Place answer what the document's reference answers (marqueelaw03.SchemaChecks is true at every input); its condition: the two tables of package unicode/utf8 are as their text lays them, which the card ties to the program's text.
-/
import Derived.Test.YtnfaoofddokjgaaDoorRowSchemaChecks
import Derived.Test.YtnfaoofddokjgaaDoorCards
import Derived.Test.YtnfaoofddokjgaaDoorTie
namespace Go.Proofs.YtnfaoofddokjgaaDoor
open Go
theorem schemaChecks_card : Rows.SchemaChecksCardSaid :=
  Claim7.holds_tied_plain_at .later [] [.data, .pinned] true (true, "00f26988600739fab753740e8727592833de55d4688091dea6581b8f6c7d5e5f") false
    RowSchemaChecks.holds (fun _ h => by cases h) (by kernel_rfl) (fun _ h => by cases h) schemaChecks_row_tie rfl ⟨rfl, rfl⟩ (by kernel_rfl) rfl
    (fun f fn hf hfn => by
      obtain rfl : f = 3 := Option.some.inj ((show Tryd.prog.funcNamed "marquee/marqueelaw03.SchemaChecks" = some 3 by kernel_rfl).symm.trans hf) |>.symm
      obtain rfl : fn = Tryd.f3 := (Option.some.inj (Tryd.func3.symm.trans hfn)).symm
      exact ⟨by kernel_rfl, fun j t ht => by
        rw [Tryd.params3] at ht
        have ht' : t = 24 ∨ t = 9 := by
          rcases j with _ | _ | j
          · left; simpa using ht.symm
          · right; simpa using ht.symm
          · simp at ht
        rcases ht' with rfl | rfl
        · exact (show Tryd.prog.wantsStandIn 24 = false by kernel_rfl)
        · exact (show Tryd.prog.wantsStandIn 9 = false by kernel_rfl)⟩)
    (by kernel_rfl)
#print axioms schemaChecks_card
end Go.Proofs.YtnfaoofddokjgaaDoor
