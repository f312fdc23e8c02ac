import Derived.Test.YteklabhmmfklbaaLosesT
import Derived.Test.YteklabhmmfklbaaLosesI
namespace Go.Proofs.Yteklabhmmfklbaa
open Go.RowKit Print Go.Proofs.YteklabhmmfklbaaW.PrintWords Go.Proofs.YteklabhmmfklbaaW.PrintLast Go.Proofs.YteklabhmmfklbaaW.PrintMore
attribute [local go_sem] max2_int min2_int max_two min_two
set_option linter.unusedVariables false
set_option linter.unusedSimpArgs false
set_option maxHeartbeats 8000000 in
set_option maxRecDepth 100000 in
theorem loses_any (n0 : Int) (t : Bool) (A : Option Addr) (c : Nat) (l : List O33) (w : World) (hl : Kd.C k33 w A l.length l) (hc : l.length ≤ c) (htot : tot l ≤ 1048576) (hsm : ∀ o ∈ l, Sm o.2.2.2.1.f0 ∧ Sm o.2.2.2.1.f1 ∧ Sm o.2.2.2.2) :
    Calls Try.prog 4 #[.int .i64 n0, .bool t, .slice A l.length c] w fun e w' => e = .returned (.bool true) ∧ Below w.heap.size w w' := by
  have hu23 := Try.underlying23
  have hu31 := Try.underlying31
  have hu33 := Try.underlying33
  obtain ⟨m, em⟩ : ∃ m, (if 65536 < n0 then 65536 else n0) = m := ⟨_, rfl⟩
  obtain ⟨n, en⟩ : ∃ n, (if 1 < m then m else 1) = n := ⟨_, rfl⟩
  have HN : Aside0 (1 ≤ n ∧ n ≤ 65536) := ⟨by subst en em; repeat' split
                                              all_goals omega⟩
  have HS0 := Aside0.mk (Sep.begin w)
  have HCK : Aside0 (rate_Check.f 4 1 n t = some 0) := ⟨check1 HN.out⟩
  have HX := Aside0.mk (And.intro hl hc)
  have HL := Aside0.mk (And.intro htot hsm)
  clear hl hc htot hsm
  go_enter Try.func4, Try.ntmps4
  go_upto_region 5 with (first | (go_at_call 7; refine (new_sep 1 n t 0 HS0.out (by repeat (first | exact Below.refl _ _ | apply below_alloc | apply pw_below_drewN | apply below_drew1)) HCK.out (by decide) (by decide) (by have := HN.out; omega) (by have := HN.out; omega)).mono ?_; rintro e w1 ⟨g, rfl, hq⟩; rw [Int.zero_add] at hq; have HS1 := Aside0.mk hq; clear hq HS0))
  go_cut [8, 9] (fun v8 v9 wx => ∃ gF gT, v8 = .pointer (some ⟨gF, 0, none⟩) ∧ v9 = .pointer (some ⟨gT, 0, none⟩) ∧ Aside0 (LoopL w g gT gF n t l 0 0 ⟨1, n, t, 0, n, 0, false⟩ [] [] [] [] (.slice none 0 0) [] wx))
  case first =>
    go_wp2
    go_meet
    case rel =>
      have h1 := fed_new (HS1.out.pick 1)
      have h2 := told_new h1
      have hsz : (w1.alloc (.cells #[.slice none 0 0, .slice none 0 0] 31)).heap.size = w1.heap.size + 1 := by simp
      rw [hsz] at h2
      exact ⟨_, _, rfl, rfl, ⟨h2.pick 2, inv0 HCK.out (by have := HN.out; omega) (by have := HN.out; omega), rfl, rfl, rfl, rfl, Sm.nil, Sm.nil, by simp [fI], by simp [fO], Int.le_refl _, by decide⟩⟩
  case rest =>
    obtain ⟨gF, gT, rfl, rfl, HI⟩ := hcut
    clear HS1
    go_upto_block 0 with fail
    go_cut [10] (fun v10 wx => ∃ (clock : Int) (s : St) (tI tO ri ro : RowsL) (v : Value) (ds : List S43), v10 = .int .i64 clock ∧ Aside0 (LoopL w g gT gF n t l l.length clock s tI tO ri ro v ds wx))
    case first =>
      go_wp2
      go_loopg [10, 11] l.length (fun kq v10 v11 wr => ∃ (clock i : Int) (s : St) (tI tO ri ro : RowsL) (v : Value) (ds : List S43), v10 = .int .i64 clock ∧ v11 = .int .i64 i ∧ Aside0 (0 ≤ i ∧ i + kq = l.length) ∧ Aside0 (LoopL w g gT gF n t l i.toNat clock s tI tO ri ro v ds wr))
      case atStart => exact ⟨0, 0, _, [], [], [], [], _, _, rfl, rfl, ⟨by omega, by omega⟩, HI⟩
      case round =>
        clear HI
        obtain ⟨clock, i, s, tI, tO, ri, ro, v, ds, rfl, rfl, HK, HR⟩ := hrel
        obtain ⟨i0, ik⟩ := HK.out
        by_cases hi : i < l.length
        · obtain ⟨ad, A3, c3, A4, c4, A5, c5, eA, p1, p2, p3, p4, p5, f0, l0, f1, l1, f2, l2⟩ := at33 HX.out.1 (Below.refl _ _) i i0 hi
          have HF := Aside0.mk (And.intro f0 (And.intro l0 (And.intro f1 (And.intro l1 (And.intro f2 l2)))))
          have q1 := pw_cell_below HR.out.old p1
          have HP := Aside0.mk (And.intro p1 (And.intro p2 (And.intro p3 (And.intro p4 p5))))
          clear f0 l0 f1 l1 f2 l2 p1 p2 p3 p4 p5
          subst eA
          obtain ⟨gq, rfl⟩ : ∃ j, gk = j + 1 := ⟨gk - 1, by omega⟩
          have hmx : (l.length : Int) ≤ 9223372036854775807 := by have := Kd.C_max HX.out.1; omega
          have hii : i + 1 ≤ 9223372036854775807 := by omega
          obtain ⟨now, hnow⟩ : ∃ now, (rd33 l i).2.1 = now := ⟨_, rfl⟩
          rw [hnow] at q1
          go_upto_region 10 with fail
          go_cut [57] (fun v57 wx => ∃ b, v57 = .bool b ∧ Aside0 (b = true → clock ≤ now ∧ now ≤ 1125899906842624 ∧ ¬ manyP n t clock now) ∧ Aside0 (Below wr.heap.size wr wx))
          case first =>
            have HB : Aside0 (0 ≤ clock ∧ clock ≤ 1125899906842624) := ⟨HR.out.p.c0, HR.out.p.c1⟩
            by_cases c1 : now < clock
            · have d1 : decide (clock ≤ now) = false := decide_eq_false (by omega)
              clear c1
              go_wp2
              go_meet
              case rel => exact ⟨false, rfl, ⟨fun h => by cases h⟩, ⟨(by repeat (first | exact Below.refl _ _ | apply below_alloc | apply pw_below_drewN | apply below_drew1))⟩⟩
            · by_cases c2 : 1125899906842624 < now
              · have d1 : decide (clock ≤ now) = true := decide_eq_true (by omega)
                have d2 : decide (now ≤ 1125899906842624) = false := decide_eq_false (by omega)
                clear c1 c2
                go_wp2
                go_meet
                case rel => exact ⟨false, rfl, ⟨fun h => by cases h⟩, ⟨(by repeat (first | exact Below.refl _ _ | apply below_alloc | apply pw_below_drewN | apply below_drew1))⟩⟩
              · have d1 : decide (clock ≤ now) = true := decide_eq_true (by omega)
                have d2 : decide (now ≤ 1125899906842624) = true := decide_eq_true (by omega)
                have hd : 0 ≤ now - clock := by omega
                have hd2 : now - clock ≤ 1125899906842624 := by have := HB.out.1; omega
                have hn1 : 0 < n := HN.out.1
                have hn0 : n ≠ 0 := by omega
                have hdl : -9223372036854775808 ≤ now - clock := by omega
                have HD : Aside0 (clock ≤ now ∧ now ≤ 1125899906842624) := ⟨by omega, by omega⟩
                obtain ⟨q, hq⟩ : ∃ q, (now - clock) / n = q := ⟨_, rfl⟩
                have eq1 : (now - clock).tdiv n = q := by rw [Int.tdiv_eq_ediv_of_nonneg hd, hq]
                have hq0 : 0 ≤ q := by rw [← hq]; exact Int.ediv_nonneg hd (by omega)
                have hq1 : q ≤ 1125899906842624 := by have := Int.ediv_le_self n hd; omega
                have HQ := Aside0.mk hq
                clear c1 c2 hq
                by_cases c3 : q ≤ 2000
                · have d3 : decide (q ≤ 2000) = true := decide_eq_true c3
                  have HM1 : Aside0 (¬ manyP n t clock now) := ⟨fun h => by have := h.2.2.2; rw [HQ.out] at this; omega⟩
                  clear c3
                  go_wp2
                  go_meet
                  case rel => exact ⟨true, rfl, ⟨fun _ => ⟨HD.out.1, HD.out.2, HM1.out⟩⟩, ⟨(by repeat (first | exact Below.refl _ _ | apply below_alloc | apply pw_below_drewN | apply below_drew1))⟩⟩
                · have d3 : decide (q ≤ 2000) = false := decide_eq_false c3
                  clear c3
                  go_wp2
                  go_meet
                  case rel => exact ⟨false, rfl, ⟨fun h => by cases h⟩, ⟨(by repeat (first | exact Below.refl _ _ | apply below_alloc | apply pw_below_drewN | apply below_drew1))⟩⟩
          case rest =>
            obtain ⟨b, rfl, HBt, HBW⟩ := hcut
            have HM0 : Aside0 (0 ≤ clock ∧ clock ≤ 1125899906842624 ∧ ¬ manyP n t clock clock) := ⟨HR.out.p.c0, HR.out.p.c1, fun h => by have := h.2.2.1; omega⟩
            have q1' := pw_cell_below HBW.out q1
            clear q1
            go_upto_if 57 with fail
            go_cut [10] (fun v10 wx => ∃ c1, v10 = .int .i64 c1 ∧ Aside0 (clock ≤ c1 ∧ c1 ≤ 1125899906842624 ∧ ¬ manyP n t clock c1) ∧ Aside0 (Below wr.heap.size wr wx))
            case first =>
              cases b
              · go_wp2
                go_meet
                case rel => exact ⟨clock, rfl, ⟨Int.le_refl _, HM0.out.2.1, HM0.out.2.2⟩, ⟨below_step HBW.out (by repeat (first | exact Below.refl _ _ | apply below_alloc | apply pw_below_drewN | apply below_drew1))⟩⟩
              · go_wp2
                go_meet
                case rel => exact ⟨now, rfl, ⟨by have h := HBt.out; exact h (by trivial)⟩, ⟨below_step HBW.out (by repeat (first | exact Below.refl _ _ | apply below_alloc | apply pw_below_drewN | apply below_drew1))⟩⟩
            case rest =>
              obtain ⟨c1, rfl, HC1, HBW2⟩ := hcut
              clear q1' HBt HBW HM0
              have HR2 := Aside0.mk (HR.out.below HBW2.out)
              clear HR HBW2
              have HFT := Aside0.mk (HR2.out.p.fits i0 hi HL.out HC1.out.2.2 ⟨HC1.out.1, HC1.out.2.1⟩)
              obtain ⟨⟨s', ri', ro', ds'⟩, hfd⟩ : ∃ R, feed s ri ro c1 (rd33 l i).2.2.1 (rd33 l i).2.2.2.1.f0 (rd33 l i).2.2.2.1.f1 [] = R := ⟨_, rfl⟩
              obtain ⟨md, hmd⟩ : ∃ m, ds'.length = m := ⟨_, rfl⟩
              have HFD := Aside0.mk (HR2.out.p.fed i0 hi HL.out HC1.out.2.2 ⟨HC1.out.1, HC1.out.2.1⟩ (rd33 l i).2.2.1 hfd)
              have HMD := Aside0.mk (And.intro hfd hmd)
              clear hfd hmd
              have q2 := pw_cell_below HR2.out.old HP.out.2.1
              have q3 := pw_cell_below HR2.out.old HP.out.2.2.1
              have q4 := pw_cell_below HR2.out.old HP.out.2.2.2.1
              go_upto_region 12 with fail
              go_cut [12] (fun v12 wx => ∃ A6 c6, v12 = .slice A6 md c6 ∧ Aside0 (Apart wx [Rt g s' ri' ro', Dl (.slice A6 md c6) ds', Told gT tI tO v ds, Fed w gF (fI (l.take i.toNat)) (fO (l.take i.toNat))]))
              case first =>
                go_region_held3 (fun w' => w'.cell? ⟨(ad.add (i.toNat * 6)).block, (ad.add (i.toNat * 6)).off + 2, none⟩ = some (.int .i64 (rd33 l i).2.2.1) ∧ w'.cell? ⟨(ad.add (i.toNat * 6)).block, (ad.add (i.toNat * 6)).off + 3, none⟩ = some (.slice A3 (rd33 l i).2.2.2.1.f0.length c3) ∧ w'.cell? ⟨(ad.add (i.toNat * 6)).block, (ad.add (i.toNat * 6)).off + 4, none⟩ = some (.slice A4 (rd33 l i).2.2.2.1.f1.length c4))
                  (first | go_keep)
                  (first | (go_at_call 10; refine (feed_fed c1 (rd33 l i).2.2.1 (j := 1) HR2.out.S rfl (by repeat (first | exact Below.refl _ _ | apply below_alloc | apply pw_below_drewN | apply below_drew1)) HFT.out (F_move HF.out.1 (below_step HR2.out.old (by repeat (first | exact Below.refl _ _ | apply below_alloc | apply pw_below_drewN | apply below_drew1)))) HF.out.2.1 (F_move HF.out.2.2.1 (below_step HR2.out.old (by repeat (first | exact Below.refl _ _ | apply below_alloc | apply pw_below_drewN | apply below_drew1)))) HF.out.2.2.2.1 HMD.out.1 HMD.out.2).mono ?_; rintro e w5 ⟨A6, c6, rfl, hq⟩; have e2 := pw_cell_below (Sep.fed (hq.pick 3)) HP.out.2.1; have e3 := pw_cell_below (Sep.fed (hq.pick 3)) HP.out.2.2.1; have e4 := pw_cell_below (Sep.fed (hq.pick 3)) HP.out.2.2.2.1; have HQ := Aside0.mk hq; clear hq))
                all_goals
                  go_wp2_with fail
                  go_meet
                  case rel => exact ⟨A6, c6, rfl, HQ⟩
              case rest =>
                obtain ⟨A6, c6, rfl, HQ⟩ := hcut
                clear q2 q3 q4
                have HXY := Aside0.mk (And.intro (F_move HF.out.1 (Sep.fed (HQ.out.pick 3))) (F_move HF.out.2.2.1 (Sep.fed (HQ.out.pick 3))))
                have HE := Aside0.mk (show (ad.add (i.toNat * 6)).block < w.heap.size from World.block_lt_of_cell? w ⟨(ad.add (i.toNat * 6)).block, (ad.add (i.toNat * 6)).off + 1, none⟩ HP.out.1)
                have HLN : Aside0 ((fI (l.take i.toNat)).length + (rd33 l i).2.2.2.1.f0.length ≤ 4194304 ∧ (fO (l.take i.toNat)).length + (rd33 l i).2.2.2.1.f1.length ≤ 4194304) := ⟨by have h1 := HR2.out.p.lens HL.out.1; have h2 := (HL.out.2 _ (rd33_mem i0 hi)).1.1; omega, by have h1 := HR2.out.p.lens HL.out.1; have h2 := (HL.out.2 _ (rd33_mem i0 hi)).2.1.1; omega⟩
                go_upto_region 13 with fail
                go_cut [] (fun wx => Aside0 (Apart wx [Fed w gF (fI (l.take (i + 1).toNat)) (fO (l.take (i + 1).toNat)), Rt g s' ri' ro', Dl (.slice A6 md c6) ds', Told gT tI tO v ds]))
                case first =>
                  obtain ⟨vI, vO, F0, hS0, hB0, hL0⟩ := fed_open (HQ.out.pick 3)
                  have q3 := pw_cell_below hB0 HP.out.2.2.1
                  have q4 := pw_cell_below hB0 HP.out.2.2.2.1
                  obtain ⟨z0, z1, fz0, fz1⟩ := hS0.cells
                  have HST := Aside0.mk hS0
                  have HREST := Aside0.mk (And.intro hB0 hL0)
                  clear hS0 hB0 hL0 HQ
                  refine wp_region_G (fun w' => w'.cell? ⟨(ad.add (i.toNat * 6)).block, (ad.add (i.toNat * 6)).off + 3, none⟩ = some (.slice A3 (rd33 l i).2.2.2.1.f0.length c3) ∧ w'.cell? ⟨(ad.add (i.toNat * 6)).block, (ad.add (i.toNat * 6)).off + 4, none⟩ = some (.slice A4 (rd33 l i).2.2.2.1.f1.length c4)) (fun w' => w'.cell? ⟨gF, 0, none⟩ = some vI ∧ w'.cell? ⟨gF, 1, none⟩ = some vO) 19 (by kernel_rfl) ?_
                  refine wpAnyG_takeW (i := 0) (oi := ?oi0) (v := ?v0) ?hi0 (by kernel_rfl) (by kernel_rfl) (by kernel_rfl) (by kernel_rfl) ?hQ0 (Or.inl ⟨?hw0, ?hy0⟩) ⟨q3, q4⟩ (fun _ => ⟨z0, z1⟩) ?_
                  case hi0 => first | (simp only [List.getElem?_toArray, List.getElem?_cons_zero, List.getElem?_cons_succ]; done) | (simp only [List.getElem?_toArray, List.getElem?_cons_zero, List.getElem?_cons_succ]; rfl)
                  case hQ0 => exact fun _ _ _ h => h
                  case hw0 => rfl
                  case hy0 => (intro w hSw; (try dsimp only at hSw); go_simp; first | done | with_reducible rfl)
                  try simp only [Act.put, List.setIfInBounds_toArray, List.set_cons_zero, List.set_cons_succ]
                  refine wpAnyG_take (i := 1) (oi := ?oi1) (v := ?v1) ?hi1 rfl (by kernel_rfl) (by kernel_rfl) (by kernel_rfl) (by kernel_rfl) (by kernel_rfl) (by kernel_rfl) ?hQ1 (Or.inl ⟨?hw1, ?hy1⟩) ⟨q3, q4⟩ ⟨z0, z1⟩ ?_
                  case hi1 => first | (simp only [List.getElem?_toArray, List.getElem?_cons_zero, List.getElem?_cons_succ]; done) | (simp only [List.getElem?_toArray, List.getElem?_cons_zero, List.getElem?_cons_succ]; rfl)
                  case hQ1 => exact fun _ _ _ h => h
                  case hw1 => rfl
                  case hy1 => (intro w hSw; (try dsimp only at hSw); go_simp; first | done | with_reducible rfl)
                  try simp only [Act.put, List.setIfInBounds_toArray, List.set_cons_zero, List.set_cons_succ]
                  refine wpAnyG_takeW (i := 2) (oi := ?oi2) (v := ?v2) ?hi2 (by kernel_rfl) (by kernel_rfl) (by kernel_rfl) (by kernel_rfl) ?hQ2 (Or.inl ⟨?hw2, ?hy2⟩) ⟨q3, q4⟩ (fun _ => ⟨z0, z1⟩) ?_
                  case hi2 => first | (simp only [List.getElem?_toArray, List.getElem?_cons_zero, List.getElem?_cons_succ]; done) | (simp only [List.getElem?_toArray, List.getElem?_cons_zero, List.getElem?_cons_succ]; rfl)
                  case hQ2 => exact fun _ _ _ h => h
                  case hw2 => rfl
                  case hy2 => (intro w hSw; (try dsimp only at hSw); go_simp; first | done | with_reducible rfl)
                  try simp only [Act.put, List.setIfInBounds_toArray, List.set_cons_zero, List.set_cons_succ]
                  refine wpAnyG_takeW (i := 3) (oi := ?oi3) (v := ?v3) ?hi3 (by kernel_rfl) (by kernel_rfl) (by kernel_rfl) (by kernel_rfl) ?hQ3 (Or.inl ⟨?hw3, ?hy3⟩) ⟨q3, q4⟩ (fun _ => ⟨z0, z1⟩) ?_
                  case hi3 => first | (simp only [List.getElem?_toArray, List.getElem?_cons_zero, List.getElem?_cons_succ]; done) | (simp only [List.getElem?_toArray, List.getElem?_cons_zero, List.getElem?_cons_succ]; rfl)
                  case hQ3 => exact fun _ _ _ h => h
                  case hw3 => rfl
                  case hy3 => (intro w hSw; (try dsimp only at hSw); go_simp; first | done | with_reducible rfl)
                  try simp only [Act.put, List.setIfInBounds_toArray, List.set_cons_zero, List.set_cons_succ]
                  refine wpAnyG_takeW (i := 4) (oi := ?oi4) (v := ?v4) ?hi4 (by kernel_rfl) (by kernel_rfl) (by kernel_rfl) (by kernel_rfl) ?hQ4 (Or.inl ⟨?hw4, ?hy4⟩) ⟨q3, q4⟩ (fun _ => ⟨z0, z1⟩) ?_
                  case hi4 => first | (simp only [List.getElem?_toArray, List.getElem?_cons_zero, List.getElem?_cons_succ]; done) | (simp only [List.getElem?_toArray, List.getElem?_cons_zero, List.getElem?_cons_succ]; rfl)
                  case hQ4 => exact fun _ _ _ h => h
                  case hw4 => rfl
                  case hy4 => (intro w hSw; (try dsimp only at hSw); go_simp; first | done | with_reducible rfl)
                  try simp only [Act.put, List.setIfInBounds_toArray, List.set_cons_zero, List.set_cons_succ]
                  refine wpAnyG_takeW (i := 5) (oi := ?oi5) (v := ?v5) ?hi5 (by kernel_rfl) (by kernel_rfl) (by kernel_rfl) (by kernel_rfl) ?hQ5 (Or.inl ⟨?hw5, ?hy5⟩) ⟨q3, q4⟩ (fun _ => ⟨z0, z1⟩) ?_
                  case hi5 => first | (simp only [List.getElem?_toArray, List.getElem?_cons_zero, List.getElem?_cons_succ]; done) | (simp only [List.getElem?_toArray, List.getElem?_cons_zero, List.getElem?_cons_succ]; rfl)
                  case hQ5 => exact fun _ _ _ h => h
                  case hw5 => rfl
                  case hy5 => (intro w hSw; (try dsimp only at hSw); go_simp; first | done | with_reducible rfl)
                  try simp only [Act.put, List.setIfInBounds_toArray, List.set_cons_zero, List.set_cons_succ]
                  refine wpAnyG_takeW (i := 6) (oi := ?oi6) (v := ?v6) ?hi6 (by kernel_rfl) (by kernel_rfl) (by kernel_rfl) (by kernel_rfl) ?hQ6 (Or.inl ⟨?hw6, ?hy6⟩) ⟨q3, q4⟩ (fun _ => ⟨z0, z1⟩) ?_
                  case hi6 => first | (simp only [List.getElem?_toArray, List.getElem?_cons_zero, List.getElem?_cons_succ]; done) | (simp only [List.getElem?_toArray, List.getElem?_cons_zero, List.getElem?_cons_succ]; rfl)
                  case hQ6 => exact fun _ _ _ h => h
                  case hw6 => rfl
                  case hy6 => (intro w hSw; (try dsimp only at hSw); go_simp; first | done | with_reducible rfl)
                  try simp only [Act.put, List.setIfInBounds_toArray, List.set_cons_zero, List.set_cons_succ]
                  refine wpAnyG_takeW (i := 7) (oi := ?oi7) (v := ?v7) ?hi7 (by kernel_rfl) (by kernel_rfl) (by kernel_rfl) (by kernel_rfl) ?hQ7 (Or.inl ⟨?hw7, ?hy7⟩) ⟨q3, q4⟩ (fun _ => ⟨z0, z1⟩) ?_
                  case hi7 => first | (simp only [List.getElem?_toArray, List.getElem?_cons_zero, List.getElem?_cons_succ]; done) | (simp only [List.getElem?_toArray, List.getElem?_cons_zero, List.getElem?_cons_succ]; rfl)
                  case hQ7 => exact fun _ _ _ h => h
                  case hw7 => rfl
                  case hy7 => (intro w hSw; (try dsimp only at hSw); go_simp; first | done | with_reducible rfl)
                  try simp only [Act.put, List.setIfInBounds_toArray, List.set_cons_zero, List.set_cons_succ]
                  refine wpAnyG_takeW (i := 9) (oi := ?oi9) (v := ?v9) ?hi9 (by kernel_rfl) (by kernel_rfl) (by kernel_rfl) (by kernel_rfl) ?hQ9 (Or.inl ⟨?hw9, ?hy9⟩) ⟨q3, q4⟩ (fun _ => ⟨z0, z1⟩) ?_
                  case hi9 => first | (simp only [List.getElem?_toArray, List.getElem?_cons_zero, List.getElem?_cons_succ]; done) | (simp only [List.getElem?_toArray, List.getElem?_cons_zero, List.getElem?_cons_succ]; rfl)
                  case hQ9 => exact fun _ _ _ h => h
                  case hw9 => rfl
                  case hy9 => (intro w hSw; (try dsimp only at hSw); go_simp; first | done | with_reducible rfl)
                  try simp only [Act.put, List.setIfInBounds_toArray, List.set_cons_zero, List.set_cons_succ]
                  refine wpAnyG_take (i := 10) (oi := ?oi10) (v := ?v10) ?hi10 rfl (by kernel_rfl) (by kernel_rfl) (by kernel_rfl) (by kernel_rfl) (by kernel_rfl) (by kernel_rfl) ?hQ10 (Or.inl ⟨?hw10, ?hy10⟩) ⟨q3, q4⟩ ⟨z0, z1⟩ ?_
                  case hi10 => first | (simp only [List.getElem?_toArray, List.getElem?_cons_zero, List.getElem?_cons_succ]; done) | (simp only [List.getElem?_toArray, List.getElem?_cons_zero, List.getElem?_cons_succ]; rfl)
                  case hQ10 => exact fun _ _ _ h => h
                  case hw10 => rfl
                  case hy10 => (intro w hSw; (try dsimp only at hSw); go_simp; first | done | with_reducible rfl)
                  try simp only [Act.put, List.setIfInBounds_toArray, List.set_cons_zero, List.set_cons_succ]
                  refine wpAnyG_takeW (i := 11) (oi := ?oi11) (v := ?v11) ?hi11 (by kernel_rfl) (by kernel_rfl) (by kernel_rfl) (by kernel_rfl) ?hQ11 (Or.inl ⟨?hw11, ?hy11⟩) ⟨q3, q4⟩ (fun _ => ⟨z0, z1⟩) ?_
                  case hi11 => first | (simp only [List.getElem?_toArray, List.getElem?_cons_zero, List.getElem?_cons_succ]; done) | (simp only [List.getElem?_toArray, List.getElem?_cons_zero, List.getElem?_cons_succ]; rfl)
                  case hQ11 => exact fun _ _ _ h => h
                  case hw11 => rfl
                  case hy11 => (intro w hSw; (try dsimp only at hSw); go_simp; first | done | with_reducible rfl)
                  try simp only [Act.put, List.setIfInBounds_toArray, List.set_cons_zero, List.set_cons_succ]
                  refine wpAnyG_takeW (i := 12) (oi := ?oi12) (v := ?v12) ?hi12 (by kernel_rfl) (by kernel_rfl) (by kernel_rfl) (by kernel_rfl) ?hQ12 (Or.inl ⟨?hw12, ?hy12⟩) ⟨q3, q4⟩ (fun _ => ⟨z0, z1⟩) ?_
                  case hi12 => first | (simp only [List.getElem?_toArray, List.getElem?_cons_zero, List.getElem?_cons_succ]; done) | (simp only [List.getElem?_toArray, List.getElem?_cons_zero, List.getElem?_cons_succ]; rfl)
                  case hQ12 => exact fun _ _ _ h => h
                  case hw12 => rfl
                  case hy12 => (intro w hSw; (try dsimp only at hSw); go_simp; first | done | with_reducible rfl)
                  try simp only [Act.put, List.setIfInBounds_toArray, List.set_cons_zero, List.set_cons_succ]
                  refine wpAnyG_takeW (i := 13) (oi := ?oi13) (v := ?v13) ?hi13 (by kernel_rfl) (by kernel_rfl) (by kernel_rfl) (by kernel_rfl) ?hQ13 (Or.inl ⟨?hw13, ?hy13⟩) ⟨q3, q4⟩ (fun _ => ⟨z0, z1⟩) ?_
                  case hi13 => first | (simp only [List.getElem?_toArray, List.getElem?_cons_zero, List.getElem?_cons_succ]; done) | (simp only [List.getElem?_toArray, List.getElem?_cons_zero, List.getElem?_cons_succ]; rfl)
                  case hQ13 => exact fun _ _ _ h => h
                  case hw13 => rfl
                  case hy13 => (intro w hSw; (try dsimp only at hSw); go_simp; first | done | with_reducible rfl)
                  try simp only [Act.put, List.setIfInBounds_toArray, List.set_cons_zero, List.set_cons_succ]
                  refine wpAnyG_takeW (i := 14) (oi := ?oi14) (v := ?v14) ?hi14 (by kernel_rfl) (by kernel_rfl) (by kernel_rfl) (by kernel_rfl) ?hQ14 (Or.inl ⟨?hw14, ?hy14⟩) ⟨q3, q4⟩ (fun _ => ⟨z0, z1⟩) ?_
                  case hi14 => first | (simp only [List.getElem?_toArray, List.getElem?_cons_zero, List.getElem?_cons_succ]; done) | (simp only [List.getElem?_toArray, List.getElem?_cons_zero, List.getElem?_cons_succ]; rfl)
                  case hQ14 => exact fun _ _ _ h => h
                  case hw14 => rfl
                  case hy14 => (intro w hSw; (try dsimp only at hSw); go_simp; first | done | with_reducible rfl)
                  try simp only [Act.put, List.setIfInBounds_toArray, List.set_cons_zero, List.set_cons_succ]
                  refine wpAnyG_takeW (i := 15) (oi := ?oi15) (v := ?v15) ?hi15 (by kernel_rfl) (by kernel_rfl) (by kernel_rfl) (by kernel_rfl) ?hQ15 (Or.inl ⟨?hw15, ?hy15⟩) ⟨q3, q4⟩ (fun _ => ⟨z0, z1⟩) ?_
                  case hi15 => first | (simp only [List.getElem?_toArray, List.getElem?_cons_zero, List.getElem?_cons_succ]; done) | (simp only [List.getElem?_toArray, List.getElem?_cons_zero, List.getElem?_cons_succ]; rfl)
                  case hQ15 => exact fun _ _ _ h => h
                  case hw15 => rfl
                  case hy15 => (intro w hSw; (try dsimp only at hSw); go_simp; first | done | with_reducible rfl)
                  try simp only [Act.put, List.setIfInBounds_toArray, List.set_cons_zero, List.set_cons_succ]
                  refine wpAnyG_takeW (i := 16) (oi := ?oi16) (v := ?v16) ?hi16 (by kernel_rfl) (by kernel_rfl) (by kernel_rfl) (by kernel_rfl) ?hQ16 (Or.inl ⟨?hw16, ?hy16⟩) ⟨q3, q4⟩ (fun _ => ⟨z0, z1⟩) ?_
                  case hi16 => first | (simp only [List.getElem?_toArray, List.getElem?_cons_zero, List.getElem?_cons_succ]; done) | (simp only [List.getElem?_toArray, List.getElem?_cons_zero, List.getElem?_cons_succ]; rfl)
                  case hQ16 => exact fun _ _ _ h => h
                  case hw16 => rfl
                  case hy16 => (intro w hSw; (try dsimp only at hSw); go_simp; first | done | with_reducible rfl)
                  try simp only [Act.put, List.setIfInBounds_toArray, List.set_cons_zero, List.set_cons_succ]
                  refine wpAnyG_one (i := 8) (o := ?oi8) (by kernel_rfl) ?hi8 (fun K' hK => ?_)
                  case hi8 => first | (simp only [List.getElem?_toArray, List.getElem?_cons_zero, List.getElem?_cons_succ]; done) | (simp only [List.getElem?_toArray, List.getElem?_cons_zero, List.getElem?_cons_succ]; rfl)
                  refine Stp.in_step (c := c3) (HST.out.below (by repeat (first | exact Below.refl _ _ | apply below_alloc | apply pw_below_drewN | apply below_drew1))) HXY.out.1 rfl (.tmp 77) (.tmp 83) rfl rfl rfl HLN.out.1 ?_
                  intro A7 c7 w7 hs
                  simp only [List.length_append] at hs
                  obtain ⟨y0, y1, fy0, fy1⟩ := hs.cells
                  have r3 := hs.read q3 HE.out
                  have r4 := hs.read q4 HE.out
                  have HS7 := Aside0.mk hs
                  clear hs HST
                  refine hK.out _ _ ⟨r3, r4⟩ (fun _ => ⟨y0, y1⟩) ?_
                  clear hK K'
                  try simp only [Act.put, List.setIfInBounds_toArray, List.set_cons_zero, List.set_cons_succ]
                  refine wpAnyG_takeW (i := 18) (oi := ?oi18) (v := ?v18) ?hi18 (by kernel_rfl) (by kernel_rfl) (by kernel_rfl) (by kernel_rfl) ?hQ18 (Or.inl ⟨?hw18, ?hy18⟩) ⟨r3, r4⟩ (fun _ => ⟨y0, y1⟩) ?_
                  case hi18 => first | (simp only [List.getElem?_toArray, List.getElem?_cons_zero, List.getElem?_cons_succ]; done) | (simp only [List.getElem?_toArray, List.getElem?_cons_zero, List.getElem?_cons_succ]; rfl)
                  case hQ18 => exact fun _ _ _ h => h
                  case hw18 => rfl
                  case hy18 => (intro w hSw; (try dsimp only at hSw); go_simp; first | done | with_reducible rfl)
                  try simp only [Act.put, List.setIfInBounds_toArray, List.set_cons_zero, List.set_cons_succ]
                  refine wpAnyG_one (i := 17) (o := ?oi17) (by kernel_rfl) ?hi17 (fun K' hK => ?_)
                  case hi17 => first | (simp only [List.getElem?_toArray, List.getElem?_cons_zero, List.getElem?_cons_succ]; done) | (simp only [List.getElem?_toArray, List.getElem?_cons_zero, List.getElem?_cons_succ]; rfl)
                  refine Stp.out_step (c := c4) HS7.out HXY.out.2 rfl (.tmp 86) (.tmp 92) rfl rfl rfl HLN.out.2 ?_
                  intro A8 c8 w8 hs
                  simp only [List.length_append] at hs
                  obtain ⟨x0, x1, fx0, fx1⟩ := hs.cells
                  have u3 := hs.read q3 HE.out
                  have u4 := hs.read q4 HE.out
                  have HS8 := Aside0.mk hs
                  clear hs HS7
                  refine hK.out _ _ ⟨u3, u4⟩ (fun _ => ⟨x0, x1⟩) ?_
                  clear hK K'
                  try simp only [Act.put, List.setIfInBounds_toArray, List.set_cons_zero, List.set_cons_succ]
                  refine wpAnyG_one (i := 19) (o := ?oi19) (by kernel_rfl) ?hi19 (fun K' hK => ?_)
                  case hi19 => first | (simp only [List.getElem?_toArray, List.getElem?_cons_zero, List.getElem?_cons_succ]; done) | (simp only [List.getElem?_toArray, List.getElem?_cons_zero, List.getElem?_cons_succ]; rfl)
                  go_simp
                  refine hK.out _ _ ?hT19 (fun h => absurd h (by decide)) ?_
                  case hT19 => (refine ⟨?_, ?_⟩ <;> (go_simp; done))
                  clear hK K'
                  try simp only [Act.put, List.setIfInBounds_toArray, List.set_cons_zero, List.set_cons_succ]
                  refine wpAnyG_takeW (i := 20) (oi := ?oi20) (v := ?v20) ?hi20 (by kernel_rfl) (by kernel_rfl) (by kernel_rfl) (by kernel_rfl) ?hQ20 (Or.inl ⟨?hw20, ?hy20⟩) ?hTx20 (fun h => absurd h (by decide)) ?_
                  case hi20 => first | (simp only [List.getElem?_toArray, List.getElem?_cons_zero, List.getElem?_cons_succ]; done) | (simp only [List.getElem?_toArray, List.getElem?_cons_zero, List.getElem?_cons_succ]; rfl)
                  case hQ20 => exact fun _ _ _ h => h
                  case hw20 => rfl
                  case hy20 => (intro w hSw; (try dsimp only at hSw); go_simp; first | done | with_reducible rfl)
                  case hTx20 => (refine ⟨?_, ?_⟩ <;> (go_simp; done))
                  try simp only [Act.put, List.setIfInBounds_toArray, List.set_cons_zero, List.set_cons_succ]
                  refine wpAnyG_one (i := 21) (o := ?oi21) (by kernel_rfl) ?hi21 (fun K' hK => ?_)
                  case hi21 => first | (simp only [List.getElem?_toArray, List.getElem?_cons_zero, List.getElem?_cons_succ]; done) | (simp only [List.getElem?_toArray, List.getElem?_cons_zero, List.getElem?_cons_succ]; rfl)
                  go_simp
                  refine hK.out _ _ ?hT21 (fun h => absurd h (by decide)) ?_
                  case hT21 => (refine ⟨?_, ?_⟩ <;> (go_simp; done))
                  clear hK K'
                  try simp only [Act.put, List.setIfInBounds_toArray, List.set_cons_zero, List.set_cons_succ]
                  refine wpAnyG_done (by kernel_rfl) ?_ _
                  go_wp2_with fail
                  go_meet
                  case rel =>
                    have hF := HS8.out.put2
                    have hG := fed_done hF HREST.out.1 HREST.out.2
                    rw [← fI_step i0 hi, ← fO_step i0 hi] at hG
                    exact ⟨hG⟩
                case rest =>
                  have HQ2 := Aside0.mk (told_next ((hcut.out.pick 2).pick 3))
                  clear hcut HQ HXY HE HLN HF HP
                  refine ‹∀ (a : Act) (w : World), _ → _› _ _ ?_
                  refine wp_N (loses_inner n t c l w HL g gF gT c1 i i0 hi s' tI tO ri' ro' ds' _ ad A6 md c6 HFD ⟨HMD.out.2⟩ HQ2 _ _ _ _ _ _ _ _ _ _ _ _ _ _ _ _ _ _ _ _ _ _ _ _ _ _ _ _ _ _ _ _ _ _ _ _ _ _ _ _ _ _ _ _ _ _ _ _ _ _ _ _ _ _ _ _ _ _ _ _ _ _ _ _ _ _ _ _ _ _ _ _ _ _ _ _ _ _ _ _ _ _ _ _ _ _ _ _ _ _ _ _ _ _ _ _ _ _ _ _ _ _ _ _ _ _ _ _ _ _ _ _ _ _ _ _ _ _ _ _ _ _ _ _ _ _ _ _ _ _ _ _ _ _ _ _ _ _ _ _ _ _ _ _ _ _ _ _ _ _ _ _ _ _ _ _ _ _ _ _ _ _ _ _ _ _ _ _ _ _ _ _ _ _ _ _ _ _ _ _ _ _ _ _ _ _ _ _ _ _ _ _ _ _ _ _ _ _  _ (fun x6 x13 x25 x26 x27 x28 x29 x30 x31 x32 x33 x34 x35 x36 x37 x38 x39 x40 x41 x42 x43 x44 x45 x46 x47 x48 x49 x50 x51 x52 x53 x54 x55 x56 x57 x58 x59 x60 x61 x62 x63 x64 x65 x66 x67 x68 x69 x70 x71 x72 x73 x74 x75 x76 x77 x78 x79 x80 x81 x82 x83 x84 x85 x86 x87 x88 x89 x90 x91 x92 x93 x94 x95 x96 x97 x98 x99 x100 x101 x102 x103 x104 x105 x106 x107 x108 x109 x110 x111 x112 x113 x114 x115 x116 x117 x118 x119 x120 x121 x122 x123 x124 x125 x126 x127 x128 x129 x130 x131 x132 x133 x134 x135 x136 x137 x138 x139 x140 x141 x142 x143 x144 x145 x146 wx HT4 => ?nrm))
                  case nrm =>
                    have HT4 := Aside0.mk HT4
                    go_wp2
                    go_roundg gq
                    case measure => omega
                    case rel => exact ⟨c1, i + 1, s', tI ++ flatI ds', tO ++ flatO ds', ri', ro', _, ds', rfl, rfl, ⟨by omega, by omega⟩, ⟨⟨HT4.out.pick 2, HFD.out.1⟩⟩⟩
        · have hie : i.toNat = l.length := by omega
          have HR2 := HR
          rw [hie] at HR2
          clear HR
          go_wp2
          go_meet
          case rel => exact ⟨clock, s, tI, tO, ri, ro, v, ds, rfl, ⟨HR2.out.below (by repeat (first | exact Below.refl _ _ | apply below_alloc | apply pw_below_drewN | apply below_drew1))⟩⟩
    case rest =>
      obtain ⟨clock, s, tI, tO, ri, ro, v, ds, rfl, HR⟩ := hcut
      refine ‹∀ (a : Act) (w : World), _ → _› _ _ ?_
      exact loses_tail n t A c l w HL HN g gF gT clock s tI tO ri ro v ds wc HR _ _ _ _ _ _ _ _ _ _ _ _ _ _ _ _ _ _ _ _ _ _ _ _ _ _ _ _ _ _ _ _ _ _ _ _ _ _ _ _ _ _ _ _ _ _ _ _ _ _ _ _ _ _ _ _ _ _ _ _ _ _ _ _ _ _ _ _ _ _ _ _ _ _ _ _ _ _ _ _ _ _ _ _ _ _ _ _ _ _ _ _ _ _ _ _ _ _ _ _ _ _ _ _ _ _ _ _ _ _ _ _ _ _ _ _ _ _ _ _ _ _ _ _ _ _ _ _ _ _ _ _ _ _ _ _ _ _ _ _ _ _ _ _ _ _ _ _ _ _ _ _ _ _ _ _ _ _ _ _ _ _ _ _ _ _ _ _ _ _ _ _ _ _ _ _ _ _ _ _ _ _ _ _ _ _ _ _ _ _ _ _ _ _ _ _ _ _
end Go.Proofs.Yteklabhmmfklbaa
