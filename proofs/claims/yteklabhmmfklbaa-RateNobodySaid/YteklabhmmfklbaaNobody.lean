import Derived.Test.YteklabhmmfklbaaSure
namespace Go.Proofs.Yteklabhmmfklbaa
open Go.RowKit Print Go.Proofs.YteklabhmmfklbaaW.PrintWords Go.Proofs.YteklabhmmfklbaaW.PrintLast Go.Proofs.YteklabhmmfklbaaW.PrintMore
set_option linter.unusedVariables false
set_option maxHeartbeats 4000000 in
set_option maxRecDepth 100000 in
theorem nobody_any (tk : Bool) (now ev : Int) (A : Option Addr) (n c : Nat) (A1 : Option Addr) (n1 c1 : Nat) (A2 : Option Addr) (n2 c2 : Nat) (w : World) : Calls Try.prog 6 #[.agg #[.bool tk, .int .i64 now, .int .i64 ev, .slice A n c, .slice A1 n1 c1, .slice A2 n2 c2]] w fun e w' => e = .returned (.bool true) ∧ Below w.heap.size w w' := by
  have hu31 := Try.underlying31
  have hu33 := Try.underlying33
  have HB0 := Aside0.mk (below_alloc (Below.refl w.heap.size w) (.cells #[.bool tk, .int .i64 now, .int .i64 ev, .slice A n c, .slice A1 n1 c1, .slice A2 n2 c2] 33))
  go_enter Try.func6, Try.ntmps6
  go_wp2_with (first
    | (go_at_call 12; refine (next_nil _).mono ?_; rintro e w1 ⟨rfl, hb⟩; have HB1 := Aside0.mk (below_step HB0.out hb); have bx : w1.heap[w.heap.size]? = some (.cells #[.bool tk, .int .i64 now, .int .i64 ev, .slice A n c, .slice A1 n1 c1, .slice A2 n2 c2] 33 (0, 0)) := (hb.block _ (by simp)).trans (by simpa using heap_alloc_new w _); have z1 : w1.cell? ⟨w.heap.size, 1, none⟩ = some (.int .i64 now) := (blk_cell bx 1).trans rfl; have z2 : w1.cell? ⟨w.heap.size, 2, none⟩ = some (.int .i64 ev) := (blk_cell bx 2).trans rfl; have z3 : w1.cell? ⟨w.heap.size, 3, none⟩ = some (.slice A n c) := (blk_cell bx 3).trans rfl; have z4 : w1.cell? ⟨w.heap.size, 4, none⟩ = some (.slice A1 n1 c1) := (blk_cell bx 4).trans rfl; have z5 : w1.cell? ⟨w.heap.size, 5, none⟩ = some (.slice A2 n2 c2) := (blk_cell bx 5).trans rfl; have BX := Aside0.mk bx; clear bx hb HB0)
    | (go_at_call 10; refine (feed_nil now ev A n c A1 n1 c1 A2 n2 c2 _).mono ?_; rintro e w2 ⟨rfl, hb⟩; have HB2 := Aside0.mk (below_step HB1.out hb); have bx : w2.heap[w.heap.size]? = some (.cells #[.bool tk, .int .i64 now, .int .i64 ev, .slice A n c, .slice A1 n1 c1, .slice A2 n2 c2] 33 (0, 0)) := (hb.block _ (blk_lt BX.out)).trans BX.out; have z6 : w2.cell? ⟨w.heap.size, 1, none⟩ = some (.int .i64 now) := (blk_cell bx 1).trans rfl; have z7 : w2.cell? ⟨w.heap.size, 5, none⟩ = some (.slice A2 n2 c2) := (blk_cell bx 5).trans rfl; clear bx hb HB1)
    | (go_at_call 11; refine (adv_nil now A2 n2 c2 _).mono ?_; rintro e w3 ⟨rfl, hb⟩; subst hb)
    | (go_at_call 14; refine (len_nil _).mono ?_; rintro e w4 ⟨rfl, hb⟩; have HB4 := Aside0.mk (below_step HB2.out hb); clear hb HB2)
    | (go_at_call 8; refine (sure_any _).mono ?_; rintro e w5 ⟨rfl, hb⟩; have HB5 := Aside0.mk (below_step HB4.out hb); clear hb HB4))
  go_ret
  exact ⟨rfl, HB5.out⟩
end Go.Proofs.Yteklabhmmfklbaa
