import Derived.Test.YtiabggpijomjmaaDoorOpenB
import Derived.Test.YtiabggpijomjmaaDoorPlA
namespace Go.Proofs.YtiabggpijomjmaaDoor
open Go.RowKit Print
theorem wt_drop (l : List S53) : ∀ d i, i + d = l.length → wtFrom l d i ≤ 16 * (((l.drop i).map mu53).sum + (l.drop i).length)
  | 0, i, h => by simp [wtFrom]
  | d + 1, i, h => by
    have ih := wt_drop l d (i + 1) (by omega)
    have hi : i < l.length := by omega
    have e : rd_T53 l i = l[i] := by unfold rd_T53; rw [Int.toNat_natCast, List.getD_eq_getElem?_getD, List.getElem?_eq_getElem hi]; rfl
    rw [List.drop_eq_getElem_cons hi]
    simp only [wtFrom, wtV, List.map_cons, List.sum_cons, List.length_cons, e]
    have em : mu53 l[i] = l[i].f2.size := by show 0 + (0 + _) = _; omega
    rw [em]
    omega
theorem wt_mu (l : List S53) : wtFrom l l.length 0 ≤ 16 * muS mu53 l := by
  have := wt_drop l l.length 0 (by omega)
  rw [List.drop_zero] at this
  exact this
end Go.Proofs.YtiabggpijomjmaaDoor
