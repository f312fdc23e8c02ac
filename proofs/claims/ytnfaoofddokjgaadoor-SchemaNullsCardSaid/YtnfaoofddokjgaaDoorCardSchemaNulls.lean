/-
  A row of nulls fits every schema of its width; a row that fits does not with a value more, nor with one of another kind (marqueelaw03.SchemaNulls is true at every input); its condition: the two tables of package unicode/utf8 are as their text lays them, which the card ties to the program's text.
-/
import Derived.Test.YtnfaoofddokjgaaDoorRowSchemaNulls
import Derived.Test.YtnfaoofddokjgaaDoorCards
import Derived.Test.YtnfaoofddokjgaaDoorTie
namespace Go.Proofs.YtnfaoofddokjgaaDoor
open Go
theorem schemaNulls_card : Rows.SchemaNullsCardSaid :=
  Claim7.holds_tied_plain_at .later [] [.data, .pinned] true (true, "00f26988600739fab753740e8727592833de55d4688091dea6581b8f6c7d5e5f") false
    RowSchemaNulls.holds (fun _ h => by cases h) (by kernel_rfl) (fun _ h => by cases h) schemaNulls_row_tie rfl ⟨rfl, rfl⟩ (by kernel_rfl) rfl
    (fun f fn hf hfn => by
      obtain rfl : f = 5 := Option.some.inj ((show Tryd.prog.funcNamed "marquee/marqueelaw03.SchemaNulls" = some 5 by kernel_rfl).symm.trans hf) |>.symm
      obtain rfl : fn = Tryd.f5 := (Option.some.inj (Tryd.func5.symm.trans hfn)).symm
      exact ⟨by kernel_rfl, fun j t ht => by
        rw [Tryd.params5] at ht
        have ht' : t = 24 ∨ t = 33 ∨ t = 3 := by
          rcases j with _ | _ | _ | j
          · left; simpa using ht.symm
          · right; left; simpa using ht.symm
          · right; right; simpa using ht.symm
          · simp at ht
        rcases ht' with rfl | rfl | rfl
        · exact (show Tryd.prog.wantsStandIn 24 = false by kernel_rfl)
        · exact (show Tryd.prog.wantsStandIn 33 = false by kernel_rfl)
        · exact (show Tryd.prog.wantsStandIn 3 = false by kernel_rfl)⟩)
    (by kernel_rfl)
#print axioms schemaNulls_card
end Go.Proofs.YtnfaoofddokjgaaDoor
