/-
  A row that is written is read as it was, bytes that are read are written as they were, and two rows have the same bytes only if they are the same (marqueelaw04.KeyBack is true at every input whose reading is of bulk at most 1048576); its condition: the two tables of package unicode/utf8 are as their text lays them, which the card ties to the program's text.
-/
import Derived.Test.YtiabggpijomjmaaDoorRowKeyBack
import Derived.Test.YtiabggpijomjmaaDoorCards
import Derived.Test.YtiabggpijomjmaaDoorTie
namespace Go.Proofs.YtiabggpijomjmaaDoor
open Go
theorem keyBack_card : Rows.KeyBackUptoCardSaid :=
  Claim7.holds_tied_plain_at .later [] _ _ _ _ RowKeyBack.holds (fun _ h => by cases h) (by kernel_rfl) (fun _ h => by cases h) keyBackUpto_row_tie rfl ⟨rfl, rfl⟩ (by kernel_rfl) rfl
    (fun f fn hf hfn => by
      obtain rfl : f = 5 := Option.some.inj ((show Tryd.prog.funcNamed "marquee/marqueelaw04.KeyBack" = some 5 by kernel_rfl).symm.trans hf) |>.symm
      obtain rfl : fn = Tryd.f5 := (Option.some.inj (Tryd.func5.symm.trans hfn)).symm
      exact ⟨by kernel_rfl, fun j t ht => by
        rw [Tryd.params5] at ht
        have ht' := Array.mem_of_getElem? ht
        simp only [List.mem_toArray, List.mem_cons, List.not_mem_nil, or_false] at ht'
        rcases ht' with rfl | rfl | rfl
        · exact (show Tryd.prog.wantsStandIn 22 = false by kernel_rfl)
        · exact (show Tryd.prog.wantsStandIn 22 = false by kernel_rfl)
        · exact (show Tryd.prog.wantsStandIn 9 = false by kernel_rfl)⟩)
    (by kernel_rfl)
#print axioms keyBack_card
end Go.Proofs.YtiabggpijomjmaaDoor
