import Derived.Test.YteklabhmmfklbaaMgX
import Derived.Test.YteklabhmmfklbaaSure
import Derived.Deep.RegionHeld3
namespace Go.Proofs.Yteklabhmmfklbaa
open Go.RowKit Print Go.Proofs.YteklabhmmfklbaaW.PrintWords Go.Proofs.YteklabhmmfklbaaW.PrintLast Go.Proofs.YteklabhmmfklbaaW.PrintMore
set_option linter.unusedVariables false
/-! ### RatePlays where no rate is made -/
set_option maxHeartbeats 4000000 in
set_option maxRecDepth 100000 in
theorem plays_none (k n : Int) (t : Bool) (now r : Int) (A : Option Addr) (m c : Nat) (w : World) (H7 : ∀ W, Calls Try.prog 7 #[.agg #[.int .i64 k, .int .i64 n, .bool t], .int .i64 now] W (fun e w' => e = .returned (.pointer none) ∧ Below W.heap.size W w')) (H16 : ∀ W, Calls Try.prog 16 #[.agg #[.int .i64 k, .int .i64 n, .bool t], .int .i64 now] W (fun e w' => e = .returned (.pointer none) ∧ Below W.heap.size W w'))
    (h17 : rate_Check.f 4 k n t = some r) (h18 : marqueeref20_Check.f 4 k n t = some r) :
    Calls Try.prog 5 #[.agg #[.int .i64 k, .int .i64 n, .bool t], .int .i64 now, .slice A m c] w fun e w' => e = .returned (.bool true) ∧ Below w.heap.size w w' := by
  have hu23 := Try.underlying23
  have HC := Aside0.mk (And.intro h17 h18)
  have H7 := Aside0.mk H7
  have H16 := Aside0.mk H16
  clear h17 h18
  go_enter Try.func5, Try.ntmps5
  go_upto_region 1 with fail
  have hb0 : Below w.heap.size w (w.alloc (.cells #[.int .i64 k, .int .i64 n, .bool t] 23)) := below_alloc (Below.refl _ _) _
  have x0 : (w.alloc (.cells #[.int .i64 k, .int .i64 n, .bool t] 23)).heap[w.heap.size]? = some (.cells #[.int .i64 k, .int .i64 n, .bool t] 23 (0, 0)) := by simpa using heap_alloc_new w _
  generalize (w.alloc (.cells #[.int .i64 k, .int .i64 n, .bool t] 23)) = W1 at *
  have a0 : W1.cell? ⟨w.heap.size, 0, none⟩ = some (.int .i64 k) := (blk_cell x0 0).trans rfl
  have a1 : W1.cell? ⟨w.heap.size, 1, none⟩ = some (.int .i64 n) := (blk_cell x0 1).trans rfl
  have a2 : W1.cell? ⟨w.heap.size, 2, none⟩ = some (.bool t) := (blk_cell x0 2).trans rfl
  have HB0 := Aside0.mk hb0
  have HA := Aside0.mk (And.intro a0 (And.intro a1 a2))
  have HB := Aside0.mk (Below.refl W1.heap.size W1)
  clear x0 hb0
  go_cut [7, 8] (fun v7 v8 wx => v7 = .pointer none ∧ v8 = .pointer none ∧ Aside0 (Below W1.heap.size W1 wx))
  case first =>
    go_region_held3 (fun w' => w'.cell? ⟨w.heap.size, 0, none⟩ = some (.int .i64 k) ∧ w'.cell? ⟨w.heap.size, 1, none⟩ = some (.int .i64 n) ∧ w'.cell? ⟨w.heap.size, 2, none⟩ = some (.bool t))
      (first | go_keep)
      (first | (go_at_call 7; refine (H7.out _).mono ?_; rintro e w1 ⟨rfl, hb⟩; have HB := Aside0.mk (below_step (below_step HB.out (by repeat (first | exact Below.refl _ _ | apply below_alloc | apply pw_below_drewN | apply below_drew1))) hb); have b0 := pw_cell_below HB.out HA.out.1; have b1 := pw_cell_below HB.out HA.out.2.1; have b2 := pw_cell_below HB.out HA.out.2.2; clear hb) | (go_at_call 16; refine (H16.out _).mono ?_; rintro e w2 ⟨rfl, hb⟩; have HB := Aside0.mk (below_step (below_step HB.out (by repeat (first | exact Below.refl _ _ | apply below_alloc | apply pw_below_drewN | apply below_drew1))) hb); have c0 := pw_cell_below HB.out HA.out.1; have c1 := pw_cell_below HB.out HA.out.2.1; have c2 := pw_cell_below HB.out HA.out.2.2; clear hb))
    all_goals
      go_wp2_with fail
      go_meet
      case rel => exact ⟨rfl, rfl, HB⟩
  case rest =>
    obtain ⟨rfl, rfl, HB4⟩ := hcut
    clear a0 a1 a2 HB
    have b0 := pw_cell_below HB4.out HA.out.1
    have b1 := pw_cell_below HB4.out HA.out.2.1
    have b2 := pw_cell_below HB4.out HA.out.2.2
    go_upto_region 2 with fail
    go_cut [38] (fun v38 wx => v38 = .bool false ∧ Aside0 (Below W1.heap.size W1 wx))
    case first =>
      have HB := HB4
      clear HB4
      go_region_held3 (fun w' => w'.cell? ⟨w.heap.size, 0, none⟩ = some (.int .i64 k) ∧ w'.cell? ⟨w.heap.size, 1, none⟩ = some (.int .i64 n) ∧ w'.cell? ⟨w.heap.size, 2, none⟩ = some (.bool t))
        (first | go_keep)
        (first | (go_at_call 17; refine (rate_Check.calls 4 k n t r _ HC.out.1).mono ?_; rintro e w1 ⟨rfl, hb⟩; have HB := Aside0.mk (below_step (below_step HB.out (by repeat (first | exact Below.refl _ _ | apply below_alloc | apply pw_below_drewN | apply below_drew1))) hb); have b0 := pw_cell_below HB.out HA.out.1; have b1 := pw_cell_below HB.out HA.out.2.1; have b2 := pw_cell_below HB.out HA.out.2.2; clear hb) | (go_at_call 18; refine (marqueeref20_Check.calls 4 k n t r _ HC.out.2).mono ?_; rintro e w2 ⟨rfl, hb⟩; have HB := Aside0.mk (below_step (below_step HB.out (by repeat (first | exact Below.refl _ _ | apply below_alloc | apply pw_below_drewN | apply below_drew1))) hb); have c0 := pw_cell_below HB.out HA.out.1; have c1 := pw_cell_below HB.out HA.out.2.1; have c2 := pw_cell_below HB.out HA.out.2.2; clear hb))
      all_goals
        go_wp2_with fail
        go_meet
        case rel => exact ⟨by simp, HB⟩
    case rest =>
      obtain ⟨rfl, HB5⟩ := hcut
      clear HB4 b0 b1 b2
      go_wp2
      go_loopg [9] 0 (fun kq v9 wr => v9 = .int .i64 0 ∧ Aside0 (Below W1.heap.size W1 wr))
      case atStart => exact ⟨rfl, HB5⟩
      case round =>
        clear HB5
        obtain ⟨rfl, HB5⟩ := hrel
        by_cases hm : (0 : Int) < (m : Int)
        · have d1 : decide ((0 : Int) < (m : Int)) = true := decide_eq_true hm
          go_wp2_with (first | (go_at_call 8; refine (sure_any _).mono ?_; rintro e w9 ⟨rfl, hb⟩; have HB9 := Aside0.mk (below_step (below_step HB0.out HB5.out) hb); clear hb))
          go_ret
          exact ⟨rfl, HB9.out⟩
        · have d1 : decide ((0 : Int) < (m : Int)) = false := decide_eq_false hm
          go_wp2_with (first | (go_at_call 8; refine (sure_any _).mono ?_; rintro e w9 ⟨rfl, hb⟩; have HB9 := Aside0.mk (below_step (below_step HB0.out HB5.out) hb); clear hb))
          go_ret
          exact ⟨rfl, HB9.out⟩
end Go.Proofs.Yteklabhmmfklbaa
