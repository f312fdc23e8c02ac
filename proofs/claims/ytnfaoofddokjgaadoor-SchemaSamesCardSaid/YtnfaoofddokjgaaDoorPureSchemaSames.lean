import Derived.Test.YtnfaoofddokjgaaDoorPx13
import Derived.Test.YtnfaoofddokjgaaDoorPlSames
namespace Go.Proofs.YtnfaoofddokjgaaDoor
open Go.RowKit Print Go.Proofs.YtnfaoofddokjgaaDoorW.PrintWords
def samesRest (l : List S38) (k : Nat) (t : Bool) : Option Bool := if t = true then (marqueelaw03_awake.f k).bind fun t => some t else (schema_SameRow.f k l l).bind fun _ => none
theorem SchemaSames_pure (s : ByteArray) (l : List S40) (t : ByteArray) (m : List S40) (r q : List S38) (hl : l.length ≤ maxLen) (hr : r.length ≤ maxLen) : ∃ k, marqueelaw03_SchemaSames.f k s l t m r q = some true := by
  refine Ev.rounds (Ev.congr (fun k => by unfold marqueelaw03_SchemaSames.f; rfl) (Ev.bind (sSame_ev s t l m hl) (Ev.bind (rSame_ev s t l m hl) ?_)))
  refine Ev.congr (fun k => by rw [if_pos (by simp)]) (Ev.bind (sSame_ev s s l l hl) ?_)
  rw [schV_self]
  refine Ev.congr (fun k => by rw [if_pos rfl]) (Ev.bind (sRow_ev r q hr) (Ev.bind (rRow_ev r q hr) ?_))
  refine Ev.congr (fun k => by rw [if_pos (by simp)]) (Ev.bind (sRow_ev r r hr) ?_)
  rw [rowV_self]
  exact Ev.congr (fun k => by rw [if_pos rfl]) (Ev.bind awake_ev (Ev.now _))
end Go.Proofs.YtnfaoofddokjgaaDoor
