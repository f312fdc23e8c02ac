import Derived.Test.YtnfaoofddokjgaaDoorPlFits
namespace Go.Proofs.YtnfaoofddokjgaaDoor
open Go.RowKit Print Go.Proofs.YtnfaoofddokjgaaDoorW.PrintWords
theorem SchemaFits_pure (s : ByteArray) (l : List S40) (r : List S38) (_hs : s.size ≤ maxLen) (_hl : l.length ≤ maxLen ∧ ∀ x ∈ l, good40 x) (hr : r.length ≤ maxLen ∧ ∀ x ∈ r, good38 x) : ∃ k, marqueelaw03_SchemaFits.f k s l r = some true := by
  refine Ev.rounds (Ev.bind (f := fun k t176 => (marqueeref03_Fits.f k s l r).bind fun t177 => if t176 = t177 then (marqueelaw03_awake.f k).bind fun t178 => some t178 else some false) (sFits_ev s l r hr) ?_)
  refine Ev.bind (f := fun k t177 => if fitsV l r = t177 then (marqueelaw03_awake.f k).bind fun t178 => some t178 else some false) (rFits_ev s l r hr) ?_
  refine Ev.congr (f := fun k => (marqueelaw03_awake.f k).bind fun t178 => some t178) (fun k => by rw [if_pos rfl]) ?_
  exact Ev.bind awake_ev (Ev.now _)
end Go.Proofs.YtnfaoofddokjgaaDoor
