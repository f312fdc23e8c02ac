/-
  Whether two schemas, two rows are the same: for all schemas and rows schema.Same and schema.SameRow answer what the document's reference answers, and each is the same as itself (marqueelaw03.SchemaSames is true at every input); its condition: the two tables of package unicode/utf8 are as their text lays them, which the card ties to the program's text.
-/
import Derived.Test.YtnfaoofddokjgaaDoorRowSchemaSames
import Derived.Test.YtnfaoofddokjgaaDoorCards
import Derived.Test.YtnfaoofddokjgaaDoorTie
namespace Go.Proofs.YtnfaoofddokjgaaDoor
open Go
theorem schemaSames_card : Rows.SchemaSamesCardSaid :=
  Claim7.holds_tied_plain_at .later [] [.data, .pinned] true (true, "00f26988600739fab753740e8727592833de55d4688091dea6581b8f6c7d5e5f") false
    RowSchemaSames.holds (fun _ h => by cases h) (by kernel_rfl) (fun _ h => by cases h) schemaSames_row_tie rfl ⟨rfl, rfl⟩ (by kernel_rfl) rfl
    (fun f fn hf hfn => by
      obtain rfl : f = 6 := Option.some.inj ((show Tryd.prog.funcNamed "marquee/marqueelaw03.SchemaSames" = some 6 by kernel_rfl).symm.trans hf) |>.symm
      obtain rfl : fn = Tryd.f6 := (Option.some.inj (Tryd.func6.symm.trans hfn)).symm
      exact ⟨by kernel_rfl, fun j t ht => by
        rw [Tryd.params6] at ht
        have ht' : t = 24 ∨ t = 42 := by
          rcases j with _ | _ | _ | j
          · left; simpa using ht.symm
          · left; simpa using ht.symm
          · right; simpa using ht.symm
          · simp at ht
        rcases ht' with rfl | rfl
        · exact (show Tryd.prog.wantsStandIn 24 = false by kernel_rfl)
        · exact (show Tryd.prog.wantsStandIn 42 = false by kernel_rfl)⟩)
    (by kernel_rfl)
#print axioms schemaSames_card
end Go.Proofs.YtnfaoofddokjgaaDoor
