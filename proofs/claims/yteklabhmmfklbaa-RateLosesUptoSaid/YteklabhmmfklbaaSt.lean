import Derived.Test.YteklabhmmfklbaaPx2
import Derived.Test.YteklabhmmfklbaaPx4
import Derived.Test.YteklabhmmfklbaaK3
import Derived.Outline
namespace Go.Proofs.Yteklabhmmfklbaa
open Go.RowKit Print Go.Proofs.YteklabhmmfklbaaW.PrintWords Go.Proofs.YteklabhmmfklbaaW.PrintLast Go.Proofs.YteklabhmmfklbaaW.PrintMore
set_option linter.unusedVariables false
/-! ### A rate in memory -/
/-- What a rate's block holds, but for its rows. -/
structure St where
  k : Int
  n : Int
  t : Bool
  clock : Int
  border : Int
  events : Int
  told : Bool
def cellsP (s : St) (vi vo : Value) : Array Value := #[.int .i64 s.k, .int .i64 s.n, .bool s.t, .int .i64 s.clock, .int .i64 s.border, .int .i64 s.events, vi, vo, .bool s.told]
/-- Block g is a rate (of type ty) that holds s and the two rows. -/
def At (ty : Nat) (w : World) (g : Nat) (s : St) (vi vo : Value) : Prop := w.heap[g]? = some (.cells (cellsP s vi vo) ty (0, 0))
section
variable {ty : Nat} {w w1 : World} {g : Nat} {s : St} {vi vo : Value}
theorem At.cells (h : At ty w g s vi vo) : w.cell? ⟨g, 0, none⟩ = some (.int .i64 s.k) ∧ w.cell? ⟨g, 1, none⟩ = some (.int .i64 s.n) ∧ w.cell? ⟨g, 2, none⟩ = some (.bool s.t) ∧ w.cell? ⟨g, 3, none⟩ = some (.int .i64 s.clock) ∧ w.cell? ⟨g, 4, none⟩ = some (.int .i64 s.border) ∧ w.cell? ⟨g, 5, none⟩ = some (.int .i64 s.events) ∧ w.cell? ⟨g, 6, none⟩ = some vi ∧ w.cell? ⟨g, 7, none⟩ = some vo ∧ w.cell? ⟨g, 8, none⟩ = some (.bool s.told) :=
  ⟨(blk_cell h 0).trans rfl, (blk_cell h 1).trans rfl, (blk_cell h 2).trans rfl, (blk_cell h 3).trans rfl, (blk_cell h 4).trans rfl, (blk_cell h 5).trans rfl, (blk_cell h 6).trans rfl, (blk_cell h 7).trans rfl, (blk_cell h 8).trans rfl⟩
theorem At.frozen (h : At ty w g s vi vo) (i : Nat) : w.frozen? ⟨g, i, none⟩ = false := blk_frozen h i
theorem At.lt (h : At ty w g s vi vo) : g < w.heap.size := blk_lt h
theorem At.kept {S : Nat → Prop} (h : At ty w g s vi vo) (hk : K3 w w1 S) (hn : ¬ S g) : At ty w1 g s vi vo := K3.blk h hk hn
theorem At.below (h : At ty w g s vi vo) (hb : Below w.heap.size w w1) : At ty w1 g s vi vo := (hb.block g h.lt).trans h
end
/-- Whether there are rows: their numbers alone count. -/
theorem some_any (A0 : Option Addr) (n0 c0 : Nat) (A1 : Option Addr) (n1 c1 : Nat) (b : Bool) (w : World) (h0 : n0 ≤ 4398046511104) (h1 : n1 ≤ 4398046511104) (hb : decide (0 < n0 + n1) = b) :
    Calls Try.prog 28 #[.agg #[.slice A0 n0 c0, .slice A1 n1 c1]] w fun e w' => e = .returned (.bool b) ∧ Below w.heap.size w w' := by
  have hu31 := Try.underlying31
  subst hb
  have hd : decide ((n0 : Int) + (n1 : Int) > 0) = decide (0 < n0 + n1) := by
    rw [Bool.eq_iff_iff]; simp; omega
  by_cases c : 0 < n0 + n1
  · have hd' : decide ((0 : Int) < (n0 : Int) + (n1 : Int)) = true := decide_eq_true (by omega)
    rw [decide_eq_true c]
    clear hd c
    go_enter Try.func28, Try.ntmps28
    go_wp2
    go_ret
    exact ⟨by simp, by repeat (first | exact Below.refl _ _ | apply below_alloc | apply pw_below_drewN | apply below_drew1)⟩
  · have hd' : decide ((0 : Int) < (n0 : Int) + (n1 : Int)) = false := decide_eq_false (by omega)
    rw [decide_eq_false c]
    clear hd c
    go_enter Try.func28, Try.ntmps28
    go_wp2
    go_ret
    exact ⟨by simp, by repeat (first | exact Below.refl _ _ | apply below_alloc | apply pw_below_drewN | apply below_drew1)⟩
end Go.Proofs.Yteklabhmmfklbaa
