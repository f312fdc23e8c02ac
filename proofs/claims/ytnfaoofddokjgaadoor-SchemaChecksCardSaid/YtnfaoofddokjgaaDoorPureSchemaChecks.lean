import Derived.Test.YtnfaoofddokjgaaDoorPlChecks
namespace Go.Proofs.YtnfaoofddokjgaaDoor
open Go.RowKit Print Go.Proofs.YtnfaoofddokjgaaDoorW.PrintWords
theorem SchemaChecks_pure (s : ByteArray) (l : List S40) (nm : ByteArray) (hs : s.size ≤ maxLen) (hl : l.length ≤ maxLen ∧ ∀ x ∈ l, good40 x) (hn : nm.size ≤ maxLen) : ∃ k, marqueelaw03_SchemaChecks.f k s l nm = some true := by
  refine Ev.rounds (Ev.congr (fun k => by unfold marqueelaw03_SchemaChecks.f; rfl) (Ev.bind (sPlace_ev s l nm hl.1) (Ev.bind (rPlace_ev s l nm hl.1) (Ev.bind (sCheck_ev s l hl hs) (Ev.bind (rCheck_ev s l hl hs) ?_)))))
  refine Ev.congr (f := fun k => (marqueeref03_Name.f k nm).bind fun t165 => if (nameB nm == t165) = true then (marqueelaw03_awake.f k).bind fun t166 => some t166 else some false) (fun k => ?_) ?_
  · rw [if_pos rfl, sName nm hn, Option.bind_some]
    congr 1
    funext t
    simp only [beq_self_eq_true, ↓reduceIte]
  · refine Ev.bind (rName_ev nm hn) ?_
    refine Ev.congr (f := fun k => (marqueelaw03_awake.f k).bind fun t166 => some t166) (fun k => by rw [if_pos (by simp)]) ?_
    exact Ev.bind awake_ev (Ev.now _)
end Go.Proofs.YtnfaoofddokjgaaDoor
