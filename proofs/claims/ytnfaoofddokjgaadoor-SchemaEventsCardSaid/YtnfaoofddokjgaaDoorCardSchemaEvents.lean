/-
  Which events there may be of any schemas, and which schema has a name: for all schemas and events schema.Event and schema.Find answer what the document's reference answers (marqueelaw03.SchemaEvents is true at every input); its condition: the two tables of package unicode/utf8 are as their text lays them, which the card ties to the program's text.
-/
import Derived.Test.YtnfaoofddokjgaaDoorRowSchemaEvents
import Derived.Test.YtnfaoofddokjgaaDoorCards
import Derived.Test.YtnfaoofddokjgaaDoorTie
namespace Go.Proofs.YtnfaoofddokjgaaDoor
open Go
theorem schemaEvents_card : Rows.SchemaEventsCardSaid :=
  Claim7.holds_tied_plain_at .later [] [.data, .pinned] true (true, "00f26988600739fab753740e8727592833de55d4688091dea6581b8f6c7d5e5f") false
    RowSchemaEvents.holds (fun _ h => by cases h) (by kernel_rfl) (fun _ h => by cases h) schemaEvents_row_tie rfl ⟨rfl, rfl⟩ (by kernel_rfl) rfl
    (fun f fn hf hfn => by
      obtain rfl : f = 7 := Option.some.inj ((show Tryd.prog.funcNamed "marquee/marqueelaw03.SchemaEvents" = some 7 by kernel_rfl).symm.trans hf) |>.symm
      obtain rfl : fn = Tryd.f7 := (Option.some.inj (Tryd.func7.symm.trans hfn)).symm
      exact ⟨by kernel_rfl, fun j t ht => by
        rw [Tryd.params7] at ht
        have ht' : t = 46 ∨ t = 48 := by
          rcases j with _ | _ | j
          · left; simpa using ht.symm
          · right; simpa using ht.symm
          · simp at ht
        rcases ht' with rfl | rfl
        · exact (show Tryd.prog.wantsStandIn 46 = false by kernel_rfl)
        · exact (show Tryd.prog.wantsStandIn 48 = false by kernel_rfl)⟩)
    (by kernel_rfl)
#print axioms schemaEvents_card
end Go.Proofs.YtnfaoofddokjgaaDoor
