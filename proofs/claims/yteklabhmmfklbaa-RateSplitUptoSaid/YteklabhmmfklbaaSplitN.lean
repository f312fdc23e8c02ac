import Derived.Test.YteklabhmmfklbaaSure
import Derived.Deep.RegionHeld3
namespace Go.Proofs.Yteklabhmmfklbaa
open Go.RowKit Print Go.Proofs.YteklabhmmfklbaaW.PrintWords Go.Proofs.YteklabhmmfklbaaW.PrintLast Go.Proofs.YteklabhmmfklbaaW.PrintMore
set_option linter.unusedVariables false
set_option maxHeartbeats 4000000 in
set_option maxRecDepth 100000 in
theorem split_none (k n : Int) (t : Bool) (A : Option Addr) (m c : Nat) (x y : Int) (w : World) (hck : rate_Check.f 4 k n t = some 1) :
    Calls Try.prog 3 #[.agg #[.int .i64 k, .int .i64 n, .bool t], .slice A m c, .agg #[.int .i64 x, .int .i64 y]] w fun e w' => e = .returned (.bool true) ∧ Below w.heap.size w w' := by
  have hu23 := Try.underlying23
  have hu25 := Try.underlying25
  have HC := Aside0.mk hck
  clear hck
  go_enter Try.func3, Try.ntmps3
  go_upto_region 1 with fail
  have hb0 : Below w.heap.size w ((w.alloc (.cells #[.int .i64 k, .int .i64 n, .bool t] 23)).alloc (.cells #[.int .i64 x, .int .i64 y] 25)) := below_alloc (below_alloc (Below.refl _ _) _) _
  have x0 : ((w.alloc (.cells #[.int .i64 k, .int .i64 n, .bool t] 23)).alloc (.cells #[.int .i64 x, .int .i64 y] 25)).heap[w.heap.size]? = some (.cells #[.int .i64 k, .int .i64 n, .bool t] 23 (0, 0)) := ((below_alloc (Below.refl _ _) _).block _ (by simp)).trans (heap_alloc_new w _)
  generalize ((w.alloc (.cells #[.int .i64 k, .int .i64 n, .bool t] 23)).alloc (.cells #[.int .i64 x, .int .i64 y] 25)) = W1 at *
  have a0 : W1.cell? ⟨w.heap.size, 0, none⟩ = some (.int .i64 k) := (blk_cell x0 0).trans rfl
  have a1 : W1.cell? ⟨w.heap.size, 1, none⟩ = some (.int .i64 n) := (blk_cell x0 1).trans rfl
  have a2 : W1.cell? ⟨w.heap.size, 2, none⟩ = some (.bool t) := (blk_cell x0 2).trans rfl
  have HB0 := Aside0.mk hb0
  have HB1 := Aside0.mk (Below.refl W1.heap.size W1)
  clear x0 hb0
  go_cut [7, 8] (fun v7 v8 wx => v7 = .pointer none ∧ v8 = .pointer none ∧ Aside0 (Below W1.heap.size W1 wx))
  case first =>
    go_region_held3 (fun w' => w'.cell? ⟨w.heap.size, 0, none⟩ = some (.int .i64 k) ∧ w'.cell? ⟨w.heap.size, 1, none⟩ = some (.int .i64 n) ∧ w'.cell? ⟨w.heap.size, 2, none⟩ = some (.bool t))
      (first | go_keep)
      (first | (go_at_call 7; refine (new_none k n t 0 1 _ HC.out (by decide)).mono ?_; rintro e w1 ⟨rfl, hb⟩; have HB2 := Aside0.mk (below_step (below_step HB1.out (by repeat (first | exact Below.refl _ _ | apply below_alloc | apply pw_below_drewN | apply below_drew1))) hb); have b0 := pw_cell_below HB2.out a0; have b1 := pw_cell_below HB2.out a1; have b2 := pw_cell_below HB2.out a2; clear hb HB1) | (go_at_call 7; refine (new_none k n t 0 1 _ HC.out (by decide)).mono ?_; rintro e w2 ⟨rfl, hb⟩; have HB3 := Aside0.mk (below_step (below_step HB2.out (by repeat (first | exact Below.refl _ _ | apply below_alloc | apply pw_below_drewN | apply below_drew1))) hb); have c0 := pw_cell_below HB3.out a0; have c1 := pw_cell_below HB3.out a1; have c2 := pw_cell_below HB3.out a2; clear hb HB2))
    all_goals
      go_wp2_with fail
      go_meet
      case rel => exact ⟨rfl, rfl, HB3⟩
  case rest =>
    obtain ⟨rfl, rfl, HB4⟩ := hcut
    go_wp2_with (first | (go_at_call 8; refine (sure_any _).mono ?_; rintro e w9 ⟨rfl, hb⟩; have HB9 := Aside0.mk (below_step (below_step HB0.out HB4.out) hb); clear hb))
    go_ret
    exact ⟨rfl, HB9.out⟩
end Go.Proofs.Yteklabhmmfklbaa
