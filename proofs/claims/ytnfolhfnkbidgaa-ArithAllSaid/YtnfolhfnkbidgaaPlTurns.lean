import Derived.Test.YtnfolhfnkbidgaaPx10
import Derived.Test.YtnfolhfnkbidgaaPlMd
namespace Go.Proofs.Ytnfolhfnkbidgaa
open Go.RowKit Print Go.Proofs.YtnfolhfnkbidgaaW.PrintWords Go.Proofs.YtnfolhfnkbidgaaW.PrintMore
def toDec (k n : Int) : Val := if (ask k k).2 ≠ 0 ∨ (ask k k).1 = true then (0, 0, E, (ask k k).2) else ofV 3 (decV k n)
def toInt (k n : Int) : Val := if (ask k k).2 ≠ 0 ∨ (ask k k).1 = true then (0, 0, E, (ask k k).2) else if k = 3 then (2, wrap64 (Int.tdiv n 10000), E, 0) else (2, n, E, 0)
theorem toDec_ev (k n : Int) (t : ByteArray) (hn : i64 n) : Ev (fun q => arith_Dec.f q k n t) (toDec k n) := by
  refine Ev.congr (fun q => by unfold arith_Dec.f; rfl) (Ev.bind (asked1_ev ⟨k, n, t⟩) ?_)
  unfold toDec
  generalize ask k k = q
  obtain ⟨qb, qe⟩ := q
  show Ev (fun q => if qe = 0 then arith_Dec.j0 q qe qb k n t else arith_Dec.j0 q qe true k n t) (if qe ≠ 0 ∨ qb = true then (0, 0, E, qe) else _)
  by_cases c : qe ≠ 0 ∨ qb = true
  · rw [if_pos c]
    refine Ev.stops (fun q => ?_)
    by_cases c0 : qe = 0
    · have hb' : qb = true := c.elim (fun h => absurd c0 h) id
      rw [if_pos c0, arith_Dec.j0, if_pos hb']; rfl
    · rw [if_neg c0, arith_Dec.j0, if_pos rfl]; rfl
  · rw [if_neg c]
    have c0 : qe = 0 := by
      by_cases h : qe = 0
      · exact h
      · exact absurd (.inl h) c
    have c1 : qb = false := by
      cases h : qb
      · rfl
      · exact absurd (.inr h) c
    subst c0 c1
    refine Ev.step (fun q => by rw [if_pos rfl, arith_Dec.j0, if_neg (by decide)]) (Ev.bind (dec_ev k n t hn) ?_)
    refine Ev.congr (fun q => ?_) (Ev.now _)
    rw [of_eq, Option.bind_some]
theorem toInt_ev (k n : Int) (t : ByteArray) : Ev (fun q => arith_Int.f q k n t) (toInt k n) := by
  refine Ev.congr (fun q => by unfold arith_Int.f; rfl) (Ev.bind (asked1_ev ⟨k, n, t⟩) ?_)
  unfold toInt
  generalize ask k k = q
  obtain ⟨qb, qe⟩ := q
  show Ev (fun q => if qe = 0 then arith_Int.j0 q qe qb k n t else arith_Int.j0 q qe true k n t) (if qe ≠ 0 ∨ qb = true then (0, 0, E, qe) else _)
  by_cases c : qe ≠ 0 ∨ qb = true
  · rw [if_pos c]
    refine Ev.stops (fun q => ?_)
    by_cases c0 : qe = 0
    · have hb' : qb = true := c.elim (fun h => absurd c0 h) id
      rw [if_pos c0, arith_Int.j0, if_pos hb']; rfl
    · rw [if_neg c0, arith_Int.j0, if_pos rfl]; rfl
  · rw [if_neg c]
    have c0 : qe = 0 := by
      by_cases h : qe = 0
      · exact h
      · exact absurd (.inl h) c
    have c1 : qb = false := by
      cases h : qb
      · rfl
      · exact absurd (.inr h) c
    subst c0 c1
    refine Ev.stops (fun q => ?_)
    rw [if_pos rfl, arith_Int.j0, if_neg (by decide)]
    by_cases c3 : k = 3
    · rw [if_pos c3, if_pos c3]; rfl
    · rw [if_neg c3, if_neg c3]; rfl
end Go.Proofs.Ytnfolhfnkbidgaa
