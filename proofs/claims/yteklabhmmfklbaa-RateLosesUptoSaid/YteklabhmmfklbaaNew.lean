import Derived.Test.YteklabhmmfklbaaSep
namespace Go.Proofs.Yteklabhmmfklbaa
open Go.RowKit Print Go.Proofs.YteklabhmmfklbaaW.PrintWords Go.Proofs.YteklabhmmfklbaaW.PrintLast Go.Proofs.YteklabhmmfklbaaW.PrintMore
set_option linter.unusedVariables false
set_option maxHeartbeats 2000000 in
set_option maxRecDepth 100000 in
/-- A rate that may not be. -/
theorem new_none (k n : Int) (t : Bool) (now : Int) (r : Int) (w : World) (hc : rate_Check.f 4 k n t = some r) (hr : r ≠ 0) :
    Calls Try.prog 7 #[.agg #[.int .i64 k, .int .i64 n, .bool t], .int .i64 now] w (fun e w' => e = .returned (.pointer none) ∧ Below w.heap.size w w') := by
  have hu23 := Try.underlying23
  have HC := Aside0.mk hc
  have hr1 : (r == 0) = false := beq_eq_false_iff_ne.2 hr
  have hr2 : (r = 0) = False := eq_false hr
  clear hc hr
  go_enter Try.func7, Try.ntmps7
  go_wp2_with (first | (go_at_call 17; (with_reducible refine (rate_Check.calls 4 k n t r _ HC.out).mono ?_); rintro e w1 ⟨rfl, hb⟩; have HB1 := Aside0.mk (below_step (below_alloc (Below.refl w.heap.size w) _) hb); clear hb))
  go_ret
  exact ⟨rfl, HB1.out⟩
set_option maxHeartbeats 2000000 in
set_option maxRecDepth 100000 in
theorem new_late (k n : Int) (t : Bool) (now : Int) (w : World) (hc : rate_Check.f 4 k n t = some 0) (h0 : now < 0 ∨ 1152921504606846976 < now) :
    Calls Try.prog 7 #[.agg #[.int .i64 k, .int .i64 n, .bool t], .int .i64 now] w (fun e w' => e = .returned (.pointer none) ∧ Below w.heap.size w w') := by
  have hu23 := Try.underlying23
  have HC := Aside0.mk hc
  clear hc
  by_cases n0 : now < 0
  · have n1 : ¬ now > 1152921504606846976 := by omega
    clear h0
    go_enter Try.func7, Try.ntmps7
    go_wp2_with (first | (go_at_call 17; (with_reducible refine (rate_Check.calls 4 k n t 0 _ HC.out).mono ?_); rintro e w1 ⟨rfl, hb⟩; have HB1 := Aside0.mk (below_step (below_alloc (Below.refl w.heap.size w) _) hb); clear hb))
    go_ret
    exact ⟨rfl, HB1.out⟩
  · have n1 : 1152921504606846976 < now := by omega
    clear h0
    go_enter Try.func7, Try.ntmps7
    go_wp2_with (first | (go_at_call 17; (with_reducible refine (rate_Check.calls 4 k n t 0 _ HC.out).mono ?_); rintro e w1 ⟨rfl, hb⟩; have HB1 := Aside0.mk (below_step (below_alloc (Below.refl w.heap.size w) _) hb); clear hb))
    go_ret
    exact ⟨rfl, HB1.out⟩
set_option maxHeartbeats 2000000 in
set_option maxRecDepth 100000 in
theorem new_any (k n : Int) (t : Bool) (now : Int) (w : World) (hc : rate_Check.f 4 k n t = some 0) (n0 : 0 ≤ now) (n1 : now ≤ 1152921504606846976) (hn0 : 0 ≤ n) (hn1 : n ≤ 1099511627776) :
    Calls Try.prog 7 #[.agg #[.int .i64 k, .int .i64 n, .bool t], .int .i64 now] w (fun e w' => ∃ g, e = .returned (.pointer (some ⟨g, 0, none⟩)) ∧ w.heap.size ≤ g ∧ At 59 w' g ⟨k, n, t, now, now + n, 0, false⟩ nilV nilV ∧ Below w.heap.size w w') := by
  have hu23 := Try.underlying23
  have hu59 := Try.underlying59
  have HC := Aside0.mk hc
  clear hc
  go_enter Try.func7, Try.ntmps7
  go_wp2_with (first | (go_at_call 17; (with_reducible refine (rate_Check.calls 4 k n t 0 _ HC.out).mono ?_); rintro e w1 ⟨rfl, hb⟩; have z := hb.cell (p := ⟨w.heap.size, 0, none⟩) (by simp); have hbx : w1.heap[w.heap.size]? = some (.cells #[.int .i64 k, .int .i64 n, .bool t] 23 (0, 0)) := (hb.block _ (by simp)).trans (by simpa using heap_alloc_new w _); have z0 : w1.cell? ⟨w.heap.size, 0, none⟩ = some (.int .i64 k) := (blk_cell hbx 0).trans rfl; have z1 : w1.cell? ⟨w.heap.size, 1, none⟩ = some (.int .i64 n) := (blk_cell hbx 1).trans rfl; have z2 : w1.cell? ⟨w.heap.size, 2, none⟩ = some (.bool t) := (blk_cell hbx 2).trans rfl; have HB1 := Aside0.mk (below_step (below_alloc (Below.refl w.heap.size w) _) hb); clear hb hbx z))
  go_ret
  exact ⟨w1.heap.size, rfl, HB1.out.size, heap_alloc_new w1 _, below_alloc HB1.out _⟩
set_option maxHeartbeats 1000000 in
set_option maxRecDepth 100000 in
theorem feed_nil (now ev : Int) (A : Option Addr) (n c : Nat) (A1 : Option Addr) (n1 c1 : Nat) (A2 : Option Addr) (n2 c2 : Nat) (w : World) : Calls Try.prog 10 #[.pointer none, .int .i64 now, .int .i64 ev, .agg #[.slice A n c, .slice A1 n1 c1], .slice A2 n2 c2] w fun e w' => e = .returned nilV ∧ Below w.heap.size w w' := by
  have hu31 := Try.underlying31
  go_enter Try.func10, Try.ntmps10
  go_wp2
  go_ret
  exact ⟨rfl, below_alloc (Below.refl _ _) _⟩
set_option maxHeartbeats 1000000 in
set_option maxRecDepth 100000 in
theorem next_nil (w : World) : Calls Try.prog 12 #[.pointer none] w fun e w' => e = .returned (.tuple #[.int .i64 0, .bool false]) ∧ Below w.heap.size w w' := by
  go_enter Try.func12, Try.ntmps12
  go_wp2
  go_ret2
  exact ⟨rfl, Below.refl _ _⟩
set_option maxHeartbeats 1000000 in
set_option maxRecDepth 100000 in
theorem len_nil (w : World) : Calls Try.prog 14 #[.pointer none] w fun e w' => e = .returned (.int .i64 0) ∧ Below w.heap.size w w' := by
  go_enter Try.func14, Try.ntmps14
  go_wp2
  go_ret
  exact ⟨rfl, Below.refl _ _⟩
end Go.Proofs.Yteklabhmmfklbaa
