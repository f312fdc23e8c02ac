import Derived.Test.YteklabhmmfklbaaMgL
import Derived.Test.YteklabhmmfklbaaSure
import Derived.Deep.RegionHeld3
namespace Go.Proofs.Yteklabhmmfklbaa
open Go.RowKit Print Go.Proofs.YteklabhmmfklbaaW.PrintWords Go.Proofs.YteklabhmmfklbaaW.PrintLast Go.Proofs.YteklabhmmfklbaaW.PrintMore
attribute [local go_sem] max2_int min2_int max_two min_two
set_option linter.unusedVariables false
set_option linter.unusedSimpArgs false
/-! ### RatePlays: the walk -/
theorem old_below {w w1 : World} {L L1 : List Asr} {W1 : World} (h : Apart w L) (i : Nat) (hi : pick i L = Old W1 :: L1) : Below W1.heap.size W1 w := by
  have h3 := h.pick i
  rw [hi] at h3
  exact Sep.done h3
set_option maxHeartbeats 8000000 in
set_option maxRecDepth 100000 in
theorem plays_any (k n : Int) (t : Bool) (now : Int) (A : Option Addr) (c : Nat) (l : List O33) (w : World) (hl : Kd.C k33 w A l.length l) (hc : l.length ≤ c) (htot : tot l ≤ 1048576) (hsm : ∀ o ∈ l, Sm o.2.2.2.1.f0 ∧ Sm o.2.2.2.1.f1 ∧ Sm o.2.2.2.2)
    (h17 : rate_Check.f 4 k n t = some 0) (h18 : marqueeref20_Check.f 4 k n t = some 0) (hn0 : 0 ≤ n) (hn1 : n ≤ 1099511627776) (hw0 : 0 ≤ now) (hw1 : now ≤ 1152921504606846976) :
    Calls Try.prog 5 #[.agg #[.int .i64 k, .int .i64 n, .bool t], .int .i64 now, .slice A l.length c] w fun e w' => e = .returned (.bool true) ∧ Below w.heap.size w w' := by
  have hu23 := Try.underlying23
  have hu31 := Try.underlying31
  have hu33 := Try.underlying33
  go_enter Try.func5, Try.ntmps5
  go_upto_region 1 with fail
  have hb0 : Below w.heap.size w (w.alloc (.cells #[.int .i64 k, .int .i64 n, .bool t] 23)) := below_alloc (Below.refl _ _) _
  have x0 : (w.alloc (.cells #[.int .i64 k, .int .i64 n, .bool t] 23)).heap[w.heap.size]? = some (.cells #[.int .i64 k, .int .i64 n, .bool t] 23 (0, 0)) := by simpa using heap_alloc_new w _
  generalize (w.alloc (.cells #[.int .i64 k, .int .i64 n, .bool t] 23)) = W1 at *
  have a0 : W1.cell? ⟨w.heap.size, 0, none⟩ = some (.int .i64 k) := (blk_cell x0 0).trans rfl
  have a1 : W1.cell? ⟨w.heap.size, 1, none⟩ = some (.int .i64 n) := (blk_cell x0 1).trans rfl
  have a2 : W1.cell? ⟨w.heap.size, 2, none⟩ = some (.bool t) := (blk_cell x0 2).trans rfl
  have HX := Aside0.mk (And.intro hb0 (And.intro (Kd.C_below hl hb0) hc))
  have HA := Aside0.mk (And.intro a0 (And.intro a1 a2))
  have HC := Aside0.mk (And.intro h17 (And.intro h18 (And.intro hn0 hn1)))
  have HW := Aside0.mk (And.intro hw0 hw1)
  have HL := Aside0.mk (And.intro htot hsm)
  have HS0 := Aside0.mk (Sep.begin W1)
  clear x0 hb0 hl hc h17 h18 hn0 hn1 hw0 hw1 htot hsm
  go_cut [7, 8] (fun v7 v8 wx => ∃ g1 g2, v7 = .pointer (some ⟨g1, 0, none⟩) ∧ v8 = .pointer (some ⟨g2, 0, none⟩) ∧ Aside0 (Apart wx [Rt g1 ⟨k, n, t, now, now + n, 0, false⟩ [] [], Xr W1 g2 ⟨k, n, t, now, now + n, 0, false⟩ [] [] nilV []]))
  case first =>
    go_region_held3 (fun w' => w'.cell? ⟨w.heap.size, 0, none⟩ = some (.int .i64 k) ∧ w'.cell? ⟨w.heap.size, 1, none⟩ = some (.int .i64 n) ∧ w'.cell? ⟨w.heap.size, 2, none⟩ = some (.bool t))
      (first | go_keep)
      (first
        | (go_at_call 7; refine (new_sep k n t now HS0.out (by repeat (first | exact Below.refl _ _ | apply below_alloc | apply pw_below_drewN | apply below_drew1)) HC.out.1 HW.out.1 HW.out.2 HC.out.2.2.1 HC.out.2.2.2).mono ?_; rintro e w1 ⟨g1, rfl, hq⟩; have HB := Aside0.mk (Sep.done (hq.pick 1)); have b0 := pw_cell_below HB.out HA.out.1; have b1 := pw_cell_below HB.out HA.out.2.1; have b2 := pw_cell_below HB.out HA.out.2.2; have HS1 := Aside0.mk hq; clear hq HS0)
        | (go_at_call 16; refine (xnew_sep k n t now (HS1.out.pick 1) (by repeat (first | exact Below.refl _ _ | apply below_alloc | apply pw_below_drewN | apply below_drew1)) HC.out.2.1 HW.out.1 HW.out.2 HC.out.2.2.1 HC.out.2.2.2).mono ?_; rintro e w2 ⟨g2, rfl, hq⟩; have HB := Aside0.mk (Xr.below hq); have c0 := pw_cell_below HB.out HA.out.1; have c1 := pw_cell_below HB.out HA.out.2.1; have c2 := pw_cell_below HB.out HA.out.2.2; have HS2 := Aside0.mk hq.swap; clear hq HS1)
        | (go_at_call 16; refine (xnew_sep k n t now HS0.out (by repeat (first | exact Below.refl _ _ | apply below_alloc | apply pw_below_drewN | apply below_drew1)) HC.out.2.1 HW.out.1 HW.out.2 HC.out.2.2.1 HC.out.2.2.2).mono ?_; rintro e w2 ⟨g2, rfl, hq⟩; have HB := Aside0.mk (Xr.below hq); have c0 := pw_cell_below HB.out HA.out.1; have c1 := pw_cell_below HB.out HA.out.2.1; have c2 := pw_cell_below HB.out HA.out.2.2; have HS1' := Aside0.mk hq; clear hq HS0)
        | (go_at_call 7; refine (new_sep k n t now HS1'.out (by repeat (first | exact Below.refl _ _ | apply below_alloc | apply pw_below_drewN | apply below_drew1)) HC.out.1 HW.out.1 HW.out.2 HC.out.2.2.1 HC.out.2.2.2).mono ?_; rintro e w1 ⟨g1, rfl, hq⟩; have HB := Aside0.mk (Xr.below (hq.pick 1)); have b0 := pw_cell_below HB.out HA.out.1; have b1 := pw_cell_below HB.out HA.out.2.1; have b2 := pw_cell_below HB.out HA.out.2.2; have HS2 := Aside0.mk hq; clear hq HS1'))
    all_goals
      go_wp2_with fail
      go_meet
      case rel => exact ⟨g1, g2, rfl, rfl, HS2⟩
  case rest =>
    obtain ⟨g1, g2, rfl, rfl, HS2⟩ := hcut
    clear a0 a1 a2 HS0
    have hb2 := Xr.below (HS2.out.pick 1)
    have b0 := pw_cell_below hb2 HA.out.1
    have b1 := pw_cell_below hb2 HA.out.2.1
    have b2 := pw_cell_below hb2 HA.out.2.2
    have HB2 := Aside0.mk (Below.refl wc.heap.size wc)
    clear hb2
    go_upto_region 2 with fail
    go_cut [38] (fun v38 wx => v38 = .bool false ∧ Aside0 (Below wc.heap.size wc wx))
    case first =>
      have HA := Aside0.mk (And.intro b0 (And.intro b1 b2))
      have HB := HB2
      clear HB2
      go_region_held3 (fun w' => w'.cell? ⟨w.heap.size, 0, none⟩ = some (.int .i64 k) ∧ w'.cell? ⟨w.heap.size, 1, none⟩ = some (.int .i64 n) ∧ w'.cell? ⟨w.heap.size, 2, none⟩ = some (.bool t))
        (first | go_keep)
        (first | (go_at_call 17; refine (rate_Check.calls 4 k n t 0 _ HC.out.1).mono ?_; rintro e w1 ⟨rfl, hb⟩; have HB := Aside0.mk (below_step (below_step HB.out (by repeat (first | exact Below.refl _ _ | apply below_alloc | apply pw_below_drewN | apply below_drew1))) hb); have b0 := pw_cell_below HB.out HA.out.1; have b1 := pw_cell_below HB.out HA.out.2.1; have b2 := pw_cell_below HB.out HA.out.2.2; clear hb) | (go_at_call 18; refine (marqueeref20_Check.calls 4 k n t 0 _ HC.out.2.1).mono ?_; rintro e w2 ⟨rfl, hb⟩; have HB := Aside0.mk (below_step (below_step HB.out (by repeat (first | exact Below.refl _ _ | apply below_alloc | apply pw_below_drewN | apply below_drew1))) hb); have c0 := pw_cell_below HB.out HA.out.1; have c1 := pw_cell_below HB.out HA.out.2.1; have c2 := pw_cell_below HB.out HA.out.2.2; clear hb))
      all_goals
        go_wp2_with fail
        go_meet
        case rel => exact ⟨by simp, HB⟩
    case rest =>
      obtain ⟨rfl, HB5⟩ := hcut
      have HI : Aside0 (LoopP W1 g1 g2 n t l 0 ⟨k, n, t, now, now + n, 0, false⟩ [] [] wc) := ⟨⟨HS2.out.onto HB5.out, pi0 HC.out.1 HC.out.2.2.1 HC.out.2.2.2 HW.out.1 HW.out.2, rfl, rfl, Sm.nil, Sm.nil, Nat.zero_le _⟩⟩
      clear HB5 HB2 HS2 b0 b1 b2
      go_wp2
      go_loopg [9] l.length (fun kq v9 wr => ∃ (i : Int) (s : St) (ri ro : RowsL), v9 = .int .i64 i ∧ Aside0 (0 ≤ i ∧ i + kq = l.length) ∧ Aside0 (LoopP W1 g1 g2 n t l i.toNat s ri ro wr))
      case atStart => exact ⟨0, _, _, _, rfl, ⟨by omega, by omega⟩, HI⟩
      case round =>
        clear HI
        obtain ⟨i, s, ri, ro, rfl, HK, HR⟩ := hrel
        obtain ⟨i0, ik⟩ := HK.out
        by_cases hi : i < l.length
        · have d0 : decide (i < (l.length : Int)) = true := decide_eq_true hi
          obtain ⟨hb0, hl, hc⟩ := HX.out
          obtain ⟨ad, A3, c3, A4, c4, A5, c5, eA, p0, p1, p2, p3, p4, p5, f0, f1, f2⟩ := at33b hl (Below.refl _ _) i i0 hi
          have q0 := pw_cell_below HR.out.old p0
          have q1 := pw_cell_below HR.out.old p1
          have q2 := pw_cell_below HR.out.old p2
          have q3 := pw_cell_below HR.out.old p3
          have q4 := pw_cell_below HR.out.old p4
          have q5 := pw_cell_below HR.out.old p5
          have HF := Aside0.mk (And.intro f0 (And.intro f1 f2))
          clear p0 p1 p2 p3 p4 p5 f0 f1 f2 hb0 hl
          subst eA
          obtain ⟨ko, rfl⟩ : ∃ j, gk = j + 1 := ⟨gk - 1, by omega⟩
          have hmx : (l.length : Int) ≤ 9223372036854775807 := by have := Kd.C_max HX.out.2.1; omega
          have hii : i + 1 ≤ 9223372036854775807 := by omega
          obtain ⟨now1, hnow1⟩ : ∃ x, (rd33 l i).2.1 = x := ⟨_, rfl⟩
          obtain ⟨wt, hwt⟩ : ∃ x, (rd33 l i).1 = x := ⟨_, rfl⟩
          obtain ⟨ev, hev⟩ : ∃ x, (rd33 l i).2.2.1 = x := ⟨_, rfl⟩
          rw [hnow1] at q1
          rw [hwt] at q0
          rw [hev] at q2
          obtain ⟨xs, hxs⟩ : ∃ x, (rd33 l i).2.2.2.1.f0 = x := ⟨_, rfl⟩
          obtain ⟨ys, hys⟩ : ∃ x, (rd33 l i).2.2.2.1.f1 = x := ⟨_, rfl⟩
          obtain ⟨all, hall⟩ : ∃ x, (rd33 l i).2.2.2.2 = x := ⟨_, rfl⟩
          have HSZ := Aside0.mk (HR.out.sizes i0 hi HL.out.1)
          have HSM := Aside0.mk (HL.out.2 _ (rd33_mem i0 hi))
          have HDE : Aside0 (xs.length + ys.length ≤ (rd33 l i).2.2.2.1.f0.length + (rd33 l i).2.2.2.1.f1.length) := ⟨by rw [hxs, hys]; exact Nat.le_refl _⟩
          rw [hxs, hys] at HSZ
          rw [hxs, hys, hall] at HSM HF
          rw [hxs] at q3
          rw [hys] at q4
          rw [hall] at q5
          clear hnow1 hwt hev hxs hys hall
          obtain ⟨nw, hnw⟩ : ∃ nw, (if 1152921504606846976 < now1 then 1152921504606846976 else now1) = nw := ⟨_, rfl⟩
          have HNW : Aside0 (nw ≤ 1152921504606846976) := ⟨by rw [← hnw]; split <;> omega⟩
          go_upto_region 9 with (fail)
          have hs3 := Blk.new (cs := #[.bool wt, .int .i64 nw, .int .i64 ev, .slice A3 xs.length c3, .slice A4 ys.length c4, .slice A5 all.length c5]) (t := 33) HR.out.S
          clear q0 q1 q2 q3 q4 q5 hnw
          generalize (wr.alloc (.cells #[.bool wt, .int .i64 nw, .int .i64 ev, .slice A3 xs.length c3, .slice A4 ys.length c4, .slice A5 all.length c5] 33)) = w3 at *
          generalize wr.heap.size = b at *
          have HS3 := Aside0.mk hs3
          have hbk := Blk.get hs3
          have b1 : w3.cell? ⟨b, 1, none⟩ = some (.int .i64 nw) := (blk_cell hbk 1).trans rfl
          have ho3 := Xr.below (hs3.pick 2)
          obtain ⟨vi, vo, hat⟩ := Xr.at_ (hs3.pick 2)
          have x3 : w3.cell? ⟨g2, 3, none⟩ = some (.int .i64 s.clock) := hat.cells.2.2.2.1
          have a0 := pw_cell_below ho3 HA.out.1
          have a1 := pw_cell_below ho3 HA.out.2.1
          have a2 := pw_cell_below ho3 HA.out.2.2
          have HM := Aside0.mk (fun (u : World) => many_any2 k n t s.clock nw u HR.out.I.inv.g.c0 HNW.out)
          clear hs3 hbk ho3 hat
          go_cut [64] (fun v64 wx => v64 = .bool (decide (manyP n t s.clock nw)) ∧ Aside0 (Below w3.heap.size w3 wx))
          case first =>
            go_region_held3 (fun w' => w'.cell? ⟨b, 1, none⟩ = some (.int .i64 nw) ∧ w'.cell? ⟨g2, 3, none⟩ = some (.int .i64 s.clock) ∧ w'.cell? ⟨w.heap.size, 0, none⟩ = some (.int .i64 k) ∧ w'.cell? ⟨w.heap.size, 1, none⟩ = some (.int .i64 n) ∧ w'.cell? ⟨w.heap.size, 2, none⟩ = some (.bool t))
              (first | go_keep)
              (first | (go_at_call 9; refine (HM.out _).mono ?_; rintro e w4 ⟨rfl, hb⟩; have e0 := pw_cell_below hb (a := ⟨w.heap.size, 0, none⟩) (v := .int .i64 k) (by go_simp); have e1 := pw_cell_below hb (a := ⟨w.heap.size, 1, none⟩) (v := .int .i64 n) (by go_simp); have e2 := pw_cell_below hb (a := ⟨w.heap.size, 2, none⟩) (v := .bool t) (by go_simp); have e3 := pw_cell_below hb (a := ⟨g2, 3, none⟩) (v := .int .i64 s.clock) (by go_simp); have e4 := pw_cell_below hb (a := ⟨b, 1, none⟩) (v := .int .i64 nw) (by go_simp); have HB4 := Aside0.mk hb; clear hb HM))
            all_goals
              go_wp2_with fail
              go_meet
              case rel => exact ⟨by first | rfl | simp [*], ⟨below_step (by repeat (first | exact Below.refl _ _ | apply below_alloc | apply pw_below_drewN | apply below_drew1)) HB4.out⟩⟩
          case rest =>
            obtain ⟨rfl, hbl⟩ := hcut
            have HS4 := Aside0.mk (HS3.out.onto hbl.out)
            clear hbl b1 x3 a0 a1 a2 HM HS3
            by_cases cm : manyP n t s.clock nw
            · rw [decide_eq_true cm]
              clear cm
              go_wp2_with (first | (go_at_call 8; refine (sure_any _).mono ?_; rintro e w9 ⟨rfl, hb⟩; have HB9 := Aside0.mk (below_step (below_step HX.out.1 (Xr.below (HS4.out.pick 2))) hb); clear hb))
              go_ret
              exact ⟨rfl, HB9.out⟩
            · rw [decide_eq_false cm]
              have HCM := Aside0.mk (show ¬ manyP s.n s.t s.clock nw by rw [HR.out.hn, HR.out.ht]; exact cm)
              clear cm
              have HBK := Aside0.mk (Blk.get HS4.out)
              have b5 : wc.cell? ⟨b, 5, none⟩ = some (.slice A5 all.length c5) := (blk_cell HBK.out 5).trans rfl
              clear HBK
              go_upto_region 13 with (first | (go_at_call 19; refine (twin_sep HS4.out (by repeat (first | exact Below.refl _ _ | apply below_alloc | apply pw_below_drewN | apply below_drew1)) (HF.out.2.2.below (below_step (Xr.below (HS4.out.pick 2)) (by repeat (first | exact Below.refl _ _ | apply below_alloc | apply pw_below_drewN | apply below_drew1)))).c.1 HF.out.2.2.c.2 HSM.out.2.2).mono ?_; rintro e w5 ⟨A6, c6, rfl, hq⟩; have HS5 := Aside0.mk hq; have hbk := Blk.get (hq.pick 1); have e0 : w5.cell? ⟨b, 0, none⟩ = some (.bool wt) := (blk_cell hbk 0).trans rfl; clear hq hbk HS4 b5))
              go_upto_if 70 with fail
              clear e0
              go_cut [11, 12] (fun s11 s12 wx => ∃ (A7 : Option Addr) (c7 : Nat) (A8 : Option Addr) (c8 m : Nat) (s' : St) (ri' ro' : RowsL) (ds : List S43), s11 = .slice A7 m c7 ∧ s12 = .slice A8 m c8 ∧ Aside0 (Apart wx [Rt g1 s' ri' ro', Dl (.slice A7 m c7) ds, Xr W1 g2 s' ri' ro' (.slice A8 m c8) ds, Rw (.slice A6 all.length c6) all]) ∧ Aside0 (∃ d, d ≤ xs.length + ys.length ∧ StepP s ri ro d s' ri' ro' ds m))
              case first =>
                cases wt
                · have hbk := Blk.get (HS5.out.pick 1)
                  have b1 : w5.cell? ⟨b, 1, none⟩ = some (.int .i64 nw) := (blk_cell hbk 1).trans rfl
                  have b2 : w5.cell? ⟨b, 2, none⟩ = some (.int .i64 ev) := (blk_cell hbk 2).trans rfl
                  have b3 : w5.cell? ⟨b, 3, none⟩ = some (.slice A3 xs.length c3) := (blk_cell hbk 3).trans rfl
                  have b4 : w5.cell? ⟨b, 4, none⟩ = some (.slice A4 ys.length c4) := (blk_cell hbk 4).trans rfl
                  have b5 : w5.cell? ⟨b, 5, none⟩ = some (.slice A5 all.length c5) := (blk_cell hbk 5).trans rfl
                  clear hbk
                  go_upto_region 15 with fail
                  go_cut [14, 15] (fun s14 s15 wx => ∃ (A9 : Option Addr) (c9 : Nat) (A10 : Option Addr) (c10 : Nat), s14 = .slice A9 xs.length c9 ∧ s15 = .slice A10 ys.length c10 ∧ Aside0 (Apart wx [Rt g1 s ri ro, Rw (.slice A9 xs.length c9) xs, Rw (.slice A10 ys.length c10) ys, Rw (.slice A6 all.length c6) all, Blk b #[.bool false, .int .i64 nw, .int .i64 ev, .slice A3 xs.length c3, .slice A4 ys.length c4, .slice A5 all.length c5] 33, Xr W1 g2 s ri ro nilV []]))
                  case first =>
                    go_region_held3 (fun w' => w'.cell? ⟨b, 3, none⟩ = some (.slice A3 xs.length c3) ∧ w'.cell? ⟨b, 4, none⟩ = some (.slice A4 ys.length c4))
                      (first | go_keep)
                      (first
                        | (go_at_call_of 19 (Value.slice A3 xs.length c3); refine (twin_sep HS5.out (by repeat (first | exact Below.refl _ _ | apply below_alloc | apply pw_below_drewN | apply below_drew1)) (HF.out.1.below (below_step (Xr.below (HS5.out.pick 3)) (by repeat (first | exact Below.refl _ _ | apply below_alloc | apply pw_below_drewN | apply below_drew1)))).c.1 HF.out.1.c.2 HSM.out.1).mono ?_; rintro e w6 ⟨A9, c9, rfl, hq⟩; have hbk := Blk.get (hq.pick 2); have d1 : w6.cell? ⟨b, 1, none⟩ = some (.int .i64 nw) := (blk_cell hbk 1).trans rfl; have d2 : w6.cell? ⟨b, 2, none⟩ = some (.int .i64 ev) := (blk_cell hbk 2).trans rfl; have d3 : w6.cell? ⟨b, 3, none⟩ = some (.slice A3 xs.length c3) := (blk_cell hbk 3).trans rfl; have d4 : w6.cell? ⟨b, 4, none⟩ = some (.slice A4 ys.length c4) := (blk_cell hbk 4).trans rfl; have d5 : w6.cell? ⟨b, 5, none⟩ = some (.slice A5 all.length c5) := (blk_cell hbk 5).trans rfl; clear hbk; have HS6 := Aside0.mk hq; clear hq HS5)
                        | (go_at_call_of 19 (Value.slice A4 ys.length c4); refine (twin_sep HS6.out (by repeat (first | exact Below.refl _ _ | apply below_alloc | apply pw_below_drewN | apply below_drew1)) (HF.out.2.1.below (below_step (Xr.below (HS6.out.pick 4)) (by repeat (first | exact Below.refl _ _ | apply below_alloc | apply pw_below_drewN | apply below_drew1)))).c.1 HF.out.2.1.c.2 HSM.out.2.1).mono ?_; rintro e w7 ⟨A10, c10, rfl, hq⟩; have hbk := Blk.get (hq.pick 3); have f1 : w7.cell? ⟨b, 1, none⟩ = some (.int .i64 nw) := (blk_cell hbk 1).trans rfl; have f2 : w7.cell? ⟨b, 2, none⟩ = some (.int .i64 ev) := (blk_cell hbk 2).trans rfl; have f3 : w7.cell? ⟨b, 3, none⟩ = some (.slice A3 xs.length c3) := (blk_cell hbk 3).trans rfl; have f4 : w7.cell? ⟨b, 4, none⟩ = some (.slice A4 ys.length c4) := (blk_cell hbk 4).trans rfl; have f5 : w7.cell? ⟨b, 5, none⟩ = some (.slice A5 all.length c5) := (blk_cell hbk 5).trans rfl; clear hbk; have HS7 : Aside0 (Apart w7 [Rt g1 s ri ro, Rw (.slice A9 xs.length c9) xs, Rw (.slice A10 ys.length c10) ys, Rw (.slice A6 all.length c6) all, Blk b #[.bool false, .int .i64 nw, .int .i64 ev, .slice A3 xs.length c3, .slice A4 ys.length c4, .slice A5 all.length c5] 33, Xr W1 g2 s ri ro nilV []]) := ⟨((hq.pick 4).pick 2).pick 1⟩; clear hq HS6)
                        | (go_at_call_of 19 (Value.slice A4 ys.length c4); refine (twin_sep HS5.out (by repeat (first | exact Below.refl _ _ | apply below_alloc | apply pw_below_drewN | apply below_drew1)) (HF.out.2.1.below (below_step (Xr.below (HS5.out.pick 3)) (by repeat (first | exact Below.refl _ _ | apply below_alloc | apply pw_below_drewN | apply below_drew1)))).c.1 HF.out.2.1.c.2 HSM.out.2.1).mono ?_; rintro e w7 ⟨A10, c10, rfl, hq⟩; have hbk := Blk.get (hq.pick 2); have f1 : w7.cell? ⟨b, 1, none⟩ = some (.int .i64 nw) := (blk_cell hbk 1).trans rfl; have f2 : w7.cell? ⟨b, 2, none⟩ = some (.int .i64 ev) := (blk_cell hbk 2).trans rfl; have f3 : w7.cell? ⟨b, 3, none⟩ = some (.slice A3 xs.length c3) := (blk_cell hbk 3).trans rfl; have f4 : w7.cell? ⟨b, 4, none⟩ = some (.slice A4 ys.length c4) := (blk_cell hbk 4).trans rfl; have f5 : w7.cell? ⟨b, 5, none⟩ = some (.slice A5 all.length c5) := (blk_cell hbk 5).trans rfl; clear hbk; have HS6' := Aside0.mk hq; clear hq HS5)
                        | (go_at_call_of 19 (Value.slice A3 xs.length c3); refine (twin_sep HS6'.out (by repeat (first | exact Below.refl _ _ | apply below_alloc | apply pw_below_drewN | apply below_drew1)) (HF.out.1.below (below_step (Xr.below (HS6'.out.pick 4)) (by repeat (first | exact Below.refl _ _ | apply below_alloc | apply pw_below_drewN | apply below_drew1)))).c.1 HF.out.1.c.2 HSM.out.1).mono ?_; rintro e w6 ⟨A9, c9, rfl, hq⟩; have hbk := Blk.get (hq.pick 3); have d1 : w6.cell? ⟨b, 1, none⟩ = some (.int .i64 nw) := (blk_cell hbk 1).trans rfl; have d2 : w6.cell? ⟨b, 2, none⟩ = some (.int .i64 ev) := (blk_cell hbk 2).trans rfl; have d3 : w6.cell? ⟨b, 3, none⟩ = some (.slice A3 xs.length c3) := (blk_cell hbk 3).trans rfl; have d4 : w6.cell? ⟨b, 4, none⟩ = some (.slice A4 ys.length c4) := (blk_cell hbk 4).trans rfl; have d5 : w6.cell? ⟨b, 5, none⟩ = some (.slice A5 all.length c5) := (blk_cell hbk 5).trans rfl; clear hbk; have HS7 : Aside0 (Apart w6 [Rt g1 s ri ro, Rw (.slice A9 xs.length c9) xs, Rw (.slice A10 ys.length c10) ys, Rw (.slice A6 all.length c6) all, Blk b #[.bool false, .int .i64 nw, .int .i64 ev, .slice A3 xs.length c3, .slice A4 ys.length c4, .slice A5 all.length c5] 33, Xr W1 g2 s ri ro nilV []]) := ⟨hq.pick 4⟩; clear hq HS6'))
                    all_goals
                      go_wp2_with fail
                      go_meet
                      case rel => exact ⟨A9, c9, A10, c10, rfl, rfl, HS7⟩
                  case rest =>
                    obtain ⟨A9, c9, A10, c10, rfl, rfl, HS7⟩ := hcut
                    clear b1 b2 b3 b4 b5 HS5
                    obtain ⟨s', ri', ro', ds, m, e1, e2, e3, hst⟩ := feed_step (xs := xs) (ys := ys) (all := all) HR.out.I HR.out.si HR.out.so HSM.out.1 HSM.out.2.1 HSM.out.2.2 ev HNW.out HCM.out HSZ.out.1 HSZ.out.2
                    have HE := Aside0.mk (And.intro e1 (And.intro e2 (And.intro e3 hst)))
                    have HZ4 : Aside0 (ri.length + xs.length ≤ 4194304 ∧ ro.length + ys.length ≤ 4194304) := ⟨by have := HSZ.out; omega⟩
                    clear e1 e2 e3 hst
                    have hbk := Blk.get (HS7.out.pick 4)
                    have b1 : wc.cell? ⟨b, 1, none⟩ = some (.int .i64 nw) := (blk_cell hbk 1).trans rfl
                    have b2 : wc.cell? ⟨b, 2, none⟩ = some (.int .i64 ev) := (blk_cell hbk 2).trans rfl
                    have b3 : wc.cell? ⟨b, 3, none⟩ = some (.slice A3 xs.length c3) := (blk_cell hbk 3).trans rfl
                    have b4 : wc.cell? ⟨b, 4, none⟩ = some (.slice A4 ys.length c4) := (blk_cell hbk 4).trans rfl
                    have b5 : wc.cell? ⟨b, 5, none⟩ = some (.slice A5 all.length c5) := (blk_cell hbk 5).trans rfl
                    clear hbk
                    go_upto_region 16 with fail
                    go_cut [11, 12] (fun s11 s12 wx => ∃ (A7 : Option Addr) (c7 : Nat) (A8 : Option Addr) (c8 : Nat), s11 = .slice A7 m c7 ∧ s12 = .slice A8 m c8 ∧ Aside0 (Apart wx [Rw (.slice A9 xs.length c9) xs, Rw (.slice A10 ys.length c10) ys, Rt g1 s' ri' ro', Dl (.slice A7 m c7) ds, Xr W1 g2 s' ri' ro' (.slice A8 m c8) ds, Rw (.slice A6 all.length c6) all]))
                    case first =>
                      go_region_held3 (fun w' => w'.cell? ⟨b, 1, none⟩ = some (.int .i64 nw) ∧ w'.cell? ⟨b, 2, none⟩ = some (.int .i64 ev) ∧ w'.cell? ⟨b, 3, none⟩ = some (.slice A3 xs.length c3) ∧ w'.cell? ⟨b, 4, none⟩ = some (.slice A4 ys.length c4) ∧ w'.cell? ⟨b, 5, none⟩ = some (.slice A5 all.length c5))
                        (first | go_keep)
                        (first
                          | (go_at_call 10; refine (feed_own nw ev HS7.out (by repeat (first | exact Below.refl _ _ | apply below_alloc | apply pw_below_drewN | apply below_drew1)) HE.out.2.2.1 HE.out.1 HE.out.2.2.2.m).mono ?_; rintro e w8 ⟨A7, c7, rfl, hq⟩; have hbk := Blk.get (hq.pick 5); have d1 : w8.cell? ⟨b, 1, none⟩ = some (.int .i64 nw) := (blk_cell hbk 1).trans rfl; have d2 : w8.cell? ⟨b, 2, none⟩ = some (.int .i64 ev) := (blk_cell hbk 2).trans rfl; have d3 : w8.cell? ⟨b, 3, none⟩ = some (.slice A3 xs.length c3) := (blk_cell hbk 3).trans rfl; have d4 : w8.cell? ⟨b, 4, none⟩ = some (.slice A4 ys.length c4) := (blk_cell hbk 4).trans rfl; have d5 : w8.cell? ⟨b, 5, none⟩ = some (.slice A5 all.length c5) := (blk_cell hbk 5).trans rfl; clear hbk; have HS8 := Aside0.mk (hq.pick 6); clear hq HS7)
                          | (go_at_call 21; refine (xfeed_sep nw ev HS8.out (by repeat (first | exact Below.refl _ _ | apply below_alloc | apply pw_below_drewN | apply below_drew1)) HR.out.I.inv.g HF.out.1 HF.out.2.1 HF.out.2.2 HR.out.I.inv.ev HZ4.out.1 HZ4.out.2 HE.out.2.2.1.many HE.out.2.1 HE.out.2.2.2.m).mono ?_; rintro e w9 ⟨A8, c8, rfl, hq⟩; have hbk := Blk.get (hq.pick 6); have f1 : w9.cell? ⟨b, 1, none⟩ = some (.int .i64 nw) := (blk_cell hbk 1).trans rfl; have f2 : w9.cell? ⟨b, 2, none⟩ = some (.int .i64 ev) := (blk_cell hbk 2).trans rfl; have f3 : w9.cell? ⟨b, 3, none⟩ = some (.slice A3 xs.length c3) := (blk_cell hbk 3).trans rfl; have f4 : w9.cell? ⟨b, 4, none⟩ = some (.slice A4 ys.length c4) := (blk_cell hbk 4).trans rfl; have f5 : w9.cell? ⟨b, 5, none⟩ = some (.slice A5 all.length c5) := (blk_cell hbk 5).trans rfl; clear hbk; have HS9 : Aside0 (Apart w9 [Rw (.slice A9 xs.length c9) xs, Rw (.slice A10 ys.length c10) ys, Rt g1 s' ri' ro', Dl (.slice A7 m c7) ds, Xr W1 g2 s' ri' ro' (.slice A8 m c8) ds, Rw (.slice A6 all.length c6) all]) := ⟨((((hq.pick 6).tail.pick 2).pick 2).pick 4).pick 4⟩; clear hq HS8)
                          | (go_at_call 21; refine (xfeed_sep nw ev (HS7.out.pick 5) (by repeat (first | exact Below.refl _ _ | apply below_alloc | apply pw_below_drewN | apply below_drew1)) HR.out.I.inv.g HF.out.1 HF.out.2.1 HF.out.2.2 HR.out.I.inv.ev HZ4.out.1 HZ4.out.2 HE.out.2.2.1.many HE.out.2.1 HE.out.2.2.2.m).mono ?_; rintro e w9 ⟨A8, c8, rfl, hq⟩; have hbk := Blk.get (hq.pick 5); have f1 : w9.cell? ⟨b, 1, none⟩ = some (.int .i64 nw) := (blk_cell hbk 1).trans rfl; have f2 : w9.cell? ⟨b, 2, none⟩ = some (.int .i64 ev) := (blk_cell hbk 2).trans rfl; have f3 : w9.cell? ⟨b, 3, none⟩ = some (.slice A3 xs.length c3) := (blk_cell hbk 3).trans rfl; have f4 : w9.cell? ⟨b, 4, none⟩ = some (.slice A4 ys.length c4) := (blk_cell hbk 4).trans rfl; have f5 : w9.cell? ⟨b, 5, none⟩ = some (.slice A5 all.length c5) := (blk_cell hbk 5).trans rfl; clear hbk; have HS8' := Aside0.mk ((((hq.pick 4).pick 4).pick 4).pick 4); clear hq HS7)
                          | (go_at_call 10; refine (feed_own nw ev HS8'.out (by repeat (first | exact Below.refl _ _ | apply below_alloc | apply pw_below_drewN | apply below_drew1)) HE.out.2.2.1 HE.out.1 HE.out.2.2.2.m).mono ?_; rintro e w8 ⟨A7, c7, rfl, hq⟩; have hbk := Blk.get (hq.pick 6); have d1 : w8.cell? ⟨b, 1, none⟩ = some (.int .i64 nw) := (blk_cell hbk 1).trans rfl; have d2 : w8.cell? ⟨b, 2, none⟩ = some (.int .i64 ev) := (blk_cell hbk 2).trans rfl; have d3 : w8.cell? ⟨b, 3, none⟩ = some (.slice A3 xs.length c3) := (blk_cell hbk 3).trans rfl; have d4 : w8.cell? ⟨b, 4, none⟩ = some (.slice A4 ys.length c4) := (blk_cell hbk 4).trans rfl; have d5 : w8.cell? ⟨b, 5, none⟩ = some (.slice A5 all.length c5) := (blk_cell hbk 5).trans rfl; clear hbk; have HS9 : Aside0 (Apart w8 [Rw (.slice A9 xs.length c9) xs, Rw (.slice A10 ys.length c10) ys, Rt g1 s' ri' ro', Dl (.slice A7 m c7) ds, Xr W1 g2 s' ri' ro' (.slice A8 m c8) ds, Rw (.slice A6 all.length c6) all]) := ⟨(((((hq.pick 6).tail.pick 5).pick 2).pick 2).pick 4).pick 4⟩; clear hq HS8'))
                      all_goals
                        go_wp2_with fail
                        go_meet
                        case rel => exact ⟨A7, c7, A8, c8, rfl, rfl, HS9⟩
                    case rest =>
                      obtain ⟨A7, c7, A8, c8, rfl, rfl, HS9⟩ := hcut
                      clear b1 b2 b3 b4 b5 HS7
                      go_wp2_with (first
                        | (go_at_call_of 22 (Value.slice A9 xs.length c9); refine (spoil_rw HS9.out (by repeat (first | exact Below.refl _ _ | apply below_alloc | apply pw_below_drewN | apply below_drew1)) HSM.out.1).mono ?_; rintro e w10 ⟨rfl, hq⟩; have HS10 := Aside0.mk hq; clear hq HS9)
                        | (go_at_call_of 22 (Value.slice A10 ys.length c10); refine (spoil_rw HS10.out (by repeat (first | exact Below.refl _ _ | apply below_alloc | apply pw_below_drewN | apply below_drew1)) HSM.out.2.1).mono ?_; rintro e w11 ⟨rfl, hq⟩; have HS11 := Aside0.mk hq; clear hq HS10))
                      go_meet
                      case rel => exact ⟨A7, c7, A8, c8, m, s', ri', ro', ds, rfl, rfl, HS11, ⟨_, Nat.le_refl _, HE.out.2.2.2⟩⟩
                · obtain ⟨s', ri', ro', ds, m, e1, e2, e3, hst⟩ := adv_step (all := all) HR.out.I HR.out.si HR.out.so HSM.out.2.2 HNW.out HCM.out
                  have HE := Aside0.mk (And.intro e1 (And.intro e2 (And.intro e3 hst)))
                  have HS6 := Aside0.mk (HS5.out.pick 2)
                  clear e1 e2 e3 hst HS5
                  have hbk := Blk.get (HS6.out.pick 2)
                  have b1 : w5.cell? ⟨b, 1, none⟩ = some (.int .i64 nw) := (blk_cell hbk 1).trans rfl
                  have b2 : w5.cell? ⟨b, 2, none⟩ = some (.int .i64 ev) := (blk_cell hbk 2).trans rfl
                  have b3 : w5.cell? ⟨b, 3, none⟩ = some (.slice A3 xs.length c3) := (blk_cell hbk 3).trans rfl
                  have b4 : w5.cell? ⟨b, 4, none⟩ = some (.slice A4 ys.length c4) := (blk_cell hbk 4).trans rfl
                  have b5 : w5.cell? ⟨b, 5, none⟩ = some (.slice A5 all.length c5) := (blk_cell hbk 5).trans rfl
                  clear hbk
                  go_upto_region 14 with fail
                  go_region_held3 (fun w' => w'.cell? ⟨b, 1, none⟩ = some (.int .i64 nw) ∧ w'.cell? ⟨b, 5, none⟩ = some (.slice A5 all.length c5))
                    (first | go_keep)
                    (first
                      | (go_at_call 11; refine (adv_own nw HS6.out (by repeat (first | exact Below.refl _ _ | apply below_alloc | apply pw_below_drewN | apply below_drew1)) HR.out.I.inv.g HR.out.si HR.out.so HSM.out.2.2 HE.out.2.2.1 HE.out.1 HE.out.2.2.2.m).mono ?_; rintro e w6 ⟨A7, c7, rfl, hq⟩; have hbk := Blk.get (hq.pick 3); have d1 : w6.cell? ⟨b, 1, none⟩ = some (.int .i64 nw) := (blk_cell hbk 1).trans rfl; have d2 : w6.cell? ⟨b, 2, none⟩ = some (.int .i64 ev) := (blk_cell hbk 2).trans rfl; have d3 : w6.cell? ⟨b, 3, none⟩ = some (.slice A3 xs.length c3) := (blk_cell hbk 3).trans rfl; have d4 : w6.cell? ⟨b, 4, none⟩ = some (.slice A4 ys.length c4) := (blk_cell hbk 4).trans rfl; have d5 : w6.cell? ⟨b, 5, none⟩ = some (.slice A5 all.length c5) := (blk_cell hbk 5).trans rfl; clear hbk; have HS7 := Aside0.mk (hq.pick 4); clear hq HS6)
                      | (go_at_call 20; refine (xadv_sep nw HS7.out (by repeat (first | exact Below.refl _ _ | apply below_alloc | apply pw_below_drewN | apply below_drew1)) HR.out.I.inv.g HF.out.2.2 HE.out.2.2.1 HE.out.2.1 HE.out.2.2.2.m).mono ?_; rintro e w7 ⟨A8, c8, rfl, hq⟩; have hbk := Blk.get (hq.pick 4); have f1 : w7.cell? ⟨b, 1, none⟩ = some (.int .i64 nw) := (blk_cell hbk 1).trans rfl; have f2 : w7.cell? ⟨b, 2, none⟩ = some (.int .i64 ev) := (blk_cell hbk 2).trans rfl; have f3 : w7.cell? ⟨b, 3, none⟩ = some (.slice A3 xs.length c3) := (blk_cell hbk 3).trans rfl; have f4 : w7.cell? ⟨b, 4, none⟩ = some (.slice A4 ys.length c4) := (blk_cell hbk 4).trans rfl; have f5 : w7.cell? ⟨b, 5, none⟩ = some (.slice A5 all.length c5) := (blk_cell hbk 5).trans rfl; clear hbk; have HS8 : Aside0 (Apart w7 [Rt g1 s' ri' ro', Dl (.slice A7 m c7) ds, Xr W1 g2 s' ri' ro' (.slice A8 m c8) ds, Rw (.slice A6 all.length c6) all]) := ⟨((hq.pick 4).tail.pick 2).pick 2⟩; clear hq HS7)
                      | (go_at_call 20; refine (xadv_sep nw (HS6.out.pick 3) (by repeat (first | exact Below.refl _ _ | apply below_alloc | apply pw_below_drewN | apply below_drew1)) HR.out.I.inv.g HF.out.2.2 HE.out.2.2.1 HE.out.2.1 HE.out.2.2.2.m).mono ?_; rintro e w7 ⟨A8, c8, rfl, hq⟩; have hbk := Blk.get (hq.pick 3); have f1 : w7.cell? ⟨b, 1, none⟩ = some (.int .i64 nw) := (blk_cell hbk 1).trans rfl; have f2 : w7.cell? ⟨b, 2, none⟩ = some (.int .i64 ev) := (blk_cell hbk 2).trans rfl; have f3 : w7.cell? ⟨b, 3, none⟩ = some (.slice A3 xs.length c3) := (blk_cell hbk 3).trans rfl; have f4 : w7.cell? ⟨b, 4, none⟩ = some (.slice A4 ys.length c4) := (blk_cell hbk 4).trans rfl; have f5 : w7.cell? ⟨b, 5, none⟩ = some (.slice A5 all.length c5) := (blk_cell hbk 5).trans rfl; clear hbk; have HS7' := Aside0.mk ((hq.pick 2).pick 2); clear hq HS6)
                      | (go_at_call 11; refine (adv_own nw HS7'.out (by repeat (first | exact Below.refl _ _ | apply below_alloc | apply pw_below_drewN | apply below_drew1)) HR.out.I.inv.g HR.out.si HR.out.so HSM.out.2.2 HE.out.2.2.1 HE.out.1 HE.out.2.2.2.m).mono ?_; rintro e w6 ⟨A7, c7, rfl, hq⟩; have hbk := Blk.get (hq.pick 4); have d1 : w6.cell? ⟨b, 1, none⟩ = some (.int .i64 nw) := (blk_cell hbk 1).trans rfl; have d2 : w6.cell? ⟨b, 2, none⟩ = some (.int .i64 ev) := (blk_cell hbk 2).trans rfl; have d3 : w6.cell? ⟨b, 3, none⟩ = some (.slice A3 xs.length c3) := (blk_cell hbk 3).trans rfl; have d4 : w6.cell? ⟨b, 4, none⟩ = some (.slice A4 ys.length c4) := (blk_cell hbk 4).trans rfl; have d5 : w6.cell? ⟨b, 5, none⟩ = some (.slice A5 all.length c5) := (blk_cell hbk 5).trans rfl; clear hbk; have HS8 : Aside0 (Apart w6 [Rt g1 s' ri' ro', Dl (.slice A7 m c7) ds, Xr W1 g2 s' ri' ro' (.slice A8 m c8) ds, Rw (.slice A6 all.length c6) all]) := ⟨(((hq.pick 4).tail.pick 3).pick 2).pick 2⟩; clear hq HS7'))
                  all_goals
                    go_wp2_with fail
                    go_meet
                    case rel => exact ⟨A7, c7, A8, c8, m, s', ri', ro', ds, rfl, rfl, HS8, ⟨0, Nat.zero_le _, HE.out.2.2.2⟩⟩
              case rest =>
                obtain ⟨A7, c7, A8, c8, m, s', ri', ro', ds, rfl, rfl, HJ, HST⟩ := hcut
                clear HS5
                obtain ⟨nv, hnv⟩ : ∃ nv, (nextD s' ri' ro').1 = nv := ⟨_, rfl⟩
                obtain ⟨bv, hbv⟩ : ∃ bv, (nextD s' ri' ro').2 = bv := ⟨_, rfl⟩
                obtain ⟨mv, hmv⟩ : ∃ mv : Int, (ri'.length : Int) + ro'.length = mv := ⟨_, rfl⟩
                have HSS : Aside0 (Sm ri' ∧ Sm ro' ∧ SmD ds) := ⟨by obtain ⟨d, _, h⟩ := HST.out; exact ⟨h.si, h.so, h.sD⟩⟩
                have HN1 := Aside0.mk (fun (w W : World) (L L' : List Asr) (g j : Nat) (h : Apart w L) (hj : pick j L = Rt g s' ri' ro' :: L') (hW : Below w.heap.size w W) => (by have := next_sep h hj hW HSS.out.1 HSS.out.2.1; rw [hnv, hbv] at this; exact this : Calls Try.prog 12 #[.pointer (some ⟨g, 0, none⟩)] W fun e w' => e = .returned (.tuple #[.int .i64 nv, .bool bv]) ∧ Apart w' L))
                have HN2 := Aside0.mk (fun (w W : World) (L L' : List Asr) (j : Nat) (h : Apart w L) (hj : pick j L = Xr W1 g2 s' ri' ro' (.slice A8 m c8) ds :: L') (hW : Below w.heap.size w W) => (by have := xnext_sep h hj hW HSS.out.1 HSS.out.2.1; rw [hnv, hbv] at this; exact this : Calls Try.prog 23 #[.pointer (some ⟨g2, 0, none⟩)] W fun e w' => e = .returned (.tuple #[.int .i64 nv, .bool bv]) ∧ Apart w' L))
                have HL1 := Aside0.mk (fun (w W : World) (L L' : List Asr) (g j : Nat) (h : Apart w L) (hj : pick j L = Rt g s' ri' ro' :: L') (hW : Below w.heap.size w W) => (by have := len_sep h hj hW HSS.out.1 HSS.out.2.1; rw [hmv] at this; exact this : Calls Try.prog 14 #[.pointer (some ⟨g, 0, none⟩)] W fun e w' => e = .returned (.int .i64 mv) ∧ Apart w' L))
                have HL2 := Aside0.mk (fun (w W : World) (L L' : List Asr) (j : Nat) (h : Apart w L) (hj : pick j L = Xr W1 g2 s' ri' ro' (.slice A8 m c8) ds :: L') (hW : Below w.heap.size w W) => xlen_sep h hj hW HSS.out.1 HSS.out.2.1 hmv)
                have HM21 : Aside0 (m ≤ 2097152) := ⟨by obtain ⟨d, _, h⟩ := HST.out; rw [← h.m]; exact h.sD.1⟩
                clear hnv hbv hmv
                go_upto_region 24 with (first
                  | (go_at_call_of 22 (Value.slice A6 all.length c6); refine (spoil_rw (HJ.out.pick 3) (by repeat (first | exact Below.refl _ _ | apply below_alloc | apply pw_below_drewN | apply below_drew1)) HSM.out.2.2).mono ?_; rintro e w12 ⟨rfl, hq⟩; have HJ1 : Aside0 (Apart w12 [Rt g1 s' ri' ro', Dl (.slice A7 m c7) ds, Xr W1 g2 s' ri' ro' (.slice A8 m c8) ds]) := ⟨hq⟩; clear hq HJ)
                  | (go_at_call 12; refine (HN1.out _ _ _ _ g1 0 HJ1.out rfl (by repeat (first | exact Below.refl _ _ | apply below_alloc | apply pw_below_drewN | apply below_drew1))).mono ?_; rintro e w13 ⟨rfl, hq⟩; have HJ2 := Aside0.mk hq; clear hq HJ1)
                  | (go_at_call 23; refine (HN2.out _ _ _ _ 2 HJ2.out rfl (by repeat (first | exact Below.refl _ _ | apply below_alloc | apply pw_below_drewN | apply below_drew1))).mono ?_; rintro e w14 ⟨rfl, hq⟩; have HJ3 := Aside0.mk hq; clear hq HJ2)
                  | (go_at_call 13; refine (xsame (i := 1) (j := 2) HJ3.out rfl rfl (by repeat (first | exact Below.refl _ _ | apply below_alloc | apply pw_below_drewN | apply below_drew1)) HSS.out.2.2).mono ?_; rintro e w15 ⟨rfl, hq⟩; have HJ4 := Aside0.mk hq; clear hq HJ3)
                  | (go_at_call 14; refine (HL1.out _ _ _ _ g1 0 HJ4.out rfl (by repeat (first | exact Below.refl _ _ | apply below_alloc | apply pw_below_drewN | apply below_drew1))).mono ?_; rintro e w16 ⟨rfl, hq⟩; have HJ5 := Aside0.mk hq; clear hq HJ4)
                  | (go_at_call 24; refine (HL2.out _ _ _ _ 2 HJ5.out rfl (by repeat (first | exact Below.refl _ _ | apply below_alloc | apply pw_below_drewN | apply below_drew1))).mono ?_; rintro e w17 ⟨rfl, hq⟩; have HJ6 := Aside0.mk hq; clear hq HJ5))
                have HJ7 : Aside0 (Apart w17 [Dls (.slice A7 m c7) m, Rt g1 s' ri' ro', Xr W1 g2 s' ri' ro' (.slice A8 m c8) ds]) := ⟨dl_dls (HJ6.out.pick 1) HSS.out.2.2⟩
                have HM7 : Aside0 (∀ W, Apart W [Dls (.slice A7 m c7) m, Rt g1 s' ri' ro', Xr W1 g2 s' ri' ro' (.slice A8 m c8) ds] → LoopP W1 g1 g2 n t l (i + 1).toNat s' ri' ro' W) := ⟨fun W hW => by
                  obtain ⟨d, hd, hst⟩ := HST.out
                  exact HR.out.next i0 hi hst (Nat.le_trans hd HDE.out) ((Xr.drop (hW.tail.pick 1)).pick 1)⟩
                have HKO : Aside0 (0 ≤ i ∧ i + (ko + 1 : Nat) = l.length) := HK
                have HII : Aside0 (i + 1 ≤ 9223372036854775807) := ⟨hii⟩
                clear HJ6 HN1 HN2 HL1 HL2 HR HST HSS HF HSM HSZ HDE HCM HNW HK ik hmx
                go_wp2
                go_loopg [20] m (fun kq v20 wr => ∃ j : Int, v20 = .int .i64 j ∧ Aside0 (0 ≤ j ∧ j + kq = m) ∧ Aside0 (Apart wr [Dls (.slice A7 m c7) m, Rt g1 s' ri' ro', Xr W1 g2 s' ri' ro' (.slice A8 m c8) ds]))
                case atStart => exact ⟨0, rfl, ⟨by omega, by omega⟩, HJ7⟩
                case round =>
                  clear HJ7
                  obtain ⟨j, rfl, HKJ, HJ8⟩ := hrel
                  obtain ⟨j0, jk⟩ := HKJ.out
                  have hm21 := HM21.out
                  by_cases hj : j < m
                  · have dj : decide (j < (m : Int)) = true := decide_eq_true hj
                    obtain ⟨ad2, B1, n1, e1, B2, n2, e2, eA, hcc, y1, y2, sp1, sp2⟩ := dls_at HJ8.out j j0 hj
                    subst eA
                    have HSP1 := Aside0.mk sp1
                    have HJJ := Aside0.mk (And.intro j0 hj)
                    obtain ⟨kj, rfl⟩ : ∃ q, gk = q + 1 := ⟨gk - 1, by omega⟩
                    have hjj : j + 1 ≤ 9223372036854775807 := by omega
                    clear sp1 sp2 y2
                    go_wp2_with (first
                      | (go_at_call_of 22 (Value.slice B1 n1 e1); refine (HSP1.out _ (by repeat (first | exact Below.refl _ _ | apply below_alloc | apply pw_below_drewN | apply below_drew1))).mono ?_; rintro e w18 ⟨rfl, hq⟩; obtain ⟨ad3, B3, n3, e3, B4, n4, e4, eA, hcc3, y3, y4, sp3, sp4⟩ := dls_at hq j HJJ.out.1 HJJ.out.2; cases eA; have HSP4 := Aside0.mk sp4; clear sp3 sp4 y3 hq HSP1 y1 HJ8)
                      | (go_at_call_of 22 (Value.slice B4 n4 e4); refine (HSP4.out _ (by repeat (first | exact Below.refl _ _ | apply below_alloc | apply pw_below_drewN | apply below_drew1))).mono ?_; rintro e w19 ⟨rfl, hq⟩; have HJ9 := Aside0.mk hq; clear hq HSP4 y4))
                    go_roundg kj
                    case measure => omega
                    case rel => exact ⟨j + 1, rfl, ⟨by omega, by omega⟩, HJ9⟩
                  · have dj : decide (j < (m : Int)) = false := decide_eq_false hj
                    have hii := HII.out
                    go_wp2
                    go_roundg ko
                    case measure => omega
                    case rel =>
                      have hk := HKO.out
                      exact ⟨i + 1, s', ri', ro', rfl, ⟨by omega, by omega⟩, ⟨HM7.out _ HJ8.out⟩⟩
        · have d0 : decide (i < (l.length : Int)) = false := decide_eq_false hi
          go_wp2_with (first | (go_at_call 8; refine (sure_any _).mono ?_; rintro e w9 ⟨rfl, hb⟩; have HB9 := Aside0.mk (below_step (below_step HX.out.1 HR.out.old) hb); clear hb))
          go_ret
          exact ⟨rfl, HB9.out⟩
end Go.Proofs.Yteklabhmmfklbaa
