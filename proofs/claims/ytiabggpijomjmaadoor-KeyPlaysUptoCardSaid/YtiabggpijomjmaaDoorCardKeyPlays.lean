/-
  Every row of additions and removals does to a map what the document says, its order and its sums (marqueelaw04.KeyPlays is true at every input whose reading is of bulk at most 1048576); its condition: the two tables of package unicode/utf8 are as their text lays them, which the card ties to the program's text.
-/
import Derived.Test.YtiabggpijomjmaaDoorRowKeyPlays
import Derived.Test.YtiabggpijomjmaaDoorCards
import Derived.Test.YtiabggpijomjmaaDoorTie
namespace Go.Proofs.YtiabggpijomjmaaDoor
open Go
theorem keyPlays_card : Rows.KeyPlaysUptoCardSaid :=
  Claim7.holds_tied_plain_at .later [] _ _ _ _ RowKeyPlays.holds (fun _ h => by cases h) (by kernel_rfl) (fun _ h => by cases h) keyPlaysUpto_row_tie rfl ⟨rfl, rfl⟩ (by kernel_rfl) rfl
    (fun f fn hf hfn => by
      obtain rfl : f = 4 := Option.some.inj ((show Tryd.prog.funcNamed "marquee/marqueelaw04.KeyPlays" = some 4 by kernel_rfl).symm.trans hf) |>.symm
      obtain rfl : fn = Tryd.f4 := (Option.some.inj (Tryd.func4.symm.trans hfn)).symm
      exact ⟨by kernel_rfl, fun j t ht => by
        rw [Tryd.params4] at ht
        have ht' := Array.mem_of_getElem? ht
        simp only [List.mem_toArray, List.mem_cons, List.not_mem_nil, or_false] at ht'
        obtain rfl := ht'
        · exact (show Tryd.prog.wantsStandIn 36 = false by kernel_rfl)⟩)
    (by kernel_rfl)
#print axioms keyPlays_card
end Go.Proofs.YtiabggpijomjmaaDoor
