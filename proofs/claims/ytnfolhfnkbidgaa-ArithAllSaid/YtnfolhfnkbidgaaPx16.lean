-- written by wip/pp.py (a program of this session's own over the kit's printer) out of the translation
import Derived.Test.YtnfolhfnkbidgaaQ
import Derived.Test.YtnfolhfnkbidgaaPx0
import Derived.Test.YtnfolhfnkbidgaaPx12
import Derived.Test.YtnfolhfnkbidgaaPx14
namespace Go.Proofs.Ytnfolhfnkbidgaa.Print
open Go.RowKit Go.Proofs.YtnfolhfnkbidgaaW.PrintWords Go.Proofs.YtnfolhfnkbidgaaW.PrintLast Go.Proofs.YtnfolhfnkbidgaaW.PrintMore
attribute [local go_sem] max2_int min2_int max_two min_two max_three min_three max_four min_four   -- for this text's walks alone
set_option linter.unusedVariables false
set_option linter.unusedSimpArgs false

/-! ### marqueeref02_Div: function 23 -/
def marqueeref02_Div.j0 : Nat → Bool → Int → Int → ByteArray → Int → Int → ByteArray → Option (Int × Int × ByteArray × Int)
  | 0, _, _, _, _, _, _, _ => none
  | k + 1, x31, x612000, x612001, x612002, x613000, x613001, x613002 => if x31 = true then ((marqueeref02_mulDiv.f k x612001 1 x613001).bind fun bt616 => ((marqueeref02_of.f 2 bt616.1 bt616.2).bind fun bt618 => (some (bt618.1, bt618.2.1, bt618.2.2.1, bt618.2.2.2)))) else ((marqueeref02_decs.f x612000 x612001 x612002 x613000 x613001 x613002).bind fun bt622 => (if bt622.2.2 = true then ((marqueeref02_mulDiv.f k bt622.1 10000 bt622.2.1).bind fun bt625 => ((marqueeref02_of.f 3 bt625.1 bt625.2).bind fun bt627 => (some (bt627.1, bt627.2.1, bt627.2.2.1, bt627.2.2.2)))) else (some (0, 0, (⟨#[]⟩ : ByteArray), 20))))
def marqueeref02_Div.f (k : Nat) (a0_0 : Int) (a0_1 : Int) (a0_2 : ByteArray) (a1_0 : Int) (a1_1 : Int) (a1_2 : ByteArray) : Option (Int × Int × ByteArray × Int) := (marqueeref02_first.f k a0_0 a0_1 a0_2 a1_0 a1_1 a1_2 true).bind fun bt614 => (if bt614.2 = true then (some (0, 0, (⟨#[]⟩ : ByteArray), bt614.1)) else (if a0_0 = 2 then (marqueeref02_Div.j0 k (a1_0 == 2) a0_0 a0_1 a0_2 a1_0 a1_1 a1_2) else (marqueeref02_Div.j0 k false a0_0 a0_1 a0_2 a1_0 a1_1 a1_2)))
theorem marqueeref02_Div.mono_l : ∀ k, (∀ y0 y1 y2 y3 y4 y5 y6, LeO (marqueeref02_Div.j0 k y0 y1 y2 y3 y4 y5 y6) (marqueeref02_Div.j0 (k + 1) y0 y1 y2 y3 y4 y5 y6))
  | 0 => fun _ _ _ _ _ _ _ r h => by simp [marqueeref02_Div.j0] at h
  | k + 1 => by
    have ih0 := marqueeref02_Div.mono_l k
    · intro y0 y1 y2 y3 y4 y5 y6
      unfold marqueeref02_Div.j0
      repeat' first
      | (with_reducible exact ih0 _ _ _ _ _ _ _)
      | (with_reducible exact marqueeref02_first.mono _ _ _ _ _ _ _ _)
      | (with_reducible exact marqueeref02_mulDiv.mono _ _ _ _)
      | (with_reducible exact LeO.refl _)
      | (with_reducible exact LeO.none _)
      | (with_reducible refine LeO.ite ?_ ?_)
      | (with_reducible refine LeO.bind ?_ (fun _ => ?_))
      | exact ih0 _ _ _ _ _ _ _
      | exact marqueeref02_first.mono _ _ _ _ _ _ _ _
      | exact marqueeref02_mulDiv.mono _ _ _ _
      | exact LeO.none _
      | refine LeO.ite ?_ ?_
      | refine LeO.bind ?_ (fun _ => ?_)
theorem marqueeref02_Div.mono : ∀ a0 a1 a2 a3 a4 a5 k, LeO (marqueeref02_Div.f k a0 a1 a2 a3 a4 a5) (marqueeref02_Div.f (k + 1) a0 a1 a2 a3 a4 a5) := by
  intro a0 a1 a2 a3 a4 a5 k
  have ih0 := marqueeref02_Div.mono_l k
  unfold marqueeref02_Div.f
  repeat' first
      | (with_reducible exact ih0 _ _ _ _ _ _ _)
      | (with_reducible exact marqueeref02_first.mono _ _ _ _ _ _ _ _)
      | (with_reducible exact marqueeref02_mulDiv.mono _ _ _ _)
      | (with_reducible exact LeO.refl _)
      | (with_reducible exact LeO.none _)
      | (with_reducible refine LeO.ite ?_ ?_)
      | (with_reducible refine LeO.bind ?_ (fun _ => ?_))
      | exact ih0 _ _ _ _ _ _ _
      | exact marqueeref02_first.mono _ _ _ _ _ _ _ _
      | exact marqueeref02_mulDiv.mono _ _ _ _
      | exact LeO.none _
      | refine LeO.ite ?_ ?_
      | refine LeO.bind ?_ (fun _ => ?_)
set_option maxHeartbeats 8000000 in
set_option maxRecDepth 100000 in
theorem marqueeref02_Div.calls (k : Nat) (a0_0 : Int) (a0_1 : Int) (a0_2 : ByteArray) (a1_0 : Int) (a1_1 : Int) (a1_2 : ByteArray) (r1 : Int) (r2 : Int) (r3 : ByteArray) (r4 : Int) (w : World) (h : marqueeref02_Div.f k a0_0 a0_1 a0_2 a1_0 a1_1 a1_2 = some (r1, r2, r3, r4)) :
    Calls Try.prog 23 #[.agg #[.int .i64 a0_0, .int .i64 a0_1, .string a0_2], .agg #[.int .i64 a1_0, .int .i64 a1_1, .string a1_2]] w fun e w' => e = .returned (.tuple #[.agg #[.int .i64 r1, .int .i64 r2, .string r3], .int .i64 r4]) ∧ Below w.heap.size w w' := by
  have hu23 := Try.underlying23
  have HB := Aside0.mk (Below.refl w.heap.size w)
  have H : ((marqueeref02_first.f k a0_0 a0_1 a0_2 a1_0 a1_1 a1_2 true).bind fun bt614 => (if bt614.2 = true then (some (0, 0, (⟨#[]⟩ : ByteArray), bt614.1)) else (if a0_0 = 2 then (marqueeref02_Div.j0 k (a1_0 == 2) a0_0 a0_1 a0_2 a1_0 a1_1 a1_2) else (marqueeref02_Div.j0 k false a0_0 a0_1 a0_2 a1_0 a1_1 a1_2)))) = some (r1, r2, r3, r4) := h
  clear h
  replace H := Option.bind_eq_some_iff.mp H
  obtain ⟨⟨t614, t615⟩, A30, H⟩ := H
  replace H : (if t615 = true then (some (0, 0, (⟨#[]⟩ : ByteArray), t614)) else (if a0_0 = 2 then (marqueeref02_Div.j0 k (a1_0 == 2) a0_0 a0_1 a0_2 a1_0 a1_1 a1_2) else (marqueeref02_Div.j0 k false a0_0 a0_1 a0_2 a1_0 a1_1 a1_2))) = some (r1, r2, r3, r4) := H
  have A3 := Aside0.mk A30
  clear A30
  by_cases c4 : t615 = true
  · subst c4
    have H1 : (some (0, 0, (⟨#[]⟩ : ByteArray), t614)) = some (r1, r2, r3, r4) := by rw [if_pos rfl] at H; exact H
    clear H
    have H := H1
    clear H1
    simp only [Option.some.injEq, Prod.mk.injEq] at H
    obtain ⟨rfl, rfl, rfl, rfl⟩ := H
    go_enter Try.func23, Try.ntmps23
    go_wp2_with (first | ((with_reducible refine gate_dst (N := 2) rfl ?_); refine box_event ?hg (N := 2) ?hd (cs := #[.int .i64 a0_0, .int .i64 a0_1, .string a0_2]) (t := 23) ?hr ?_; (case hd => rfl); (case hg => rfl); (case hr => first | (go_simp; done) | (go_simp; rfl)); intro gb611 hg w5 hbox hb; have BK611 := Aside0.mk (hbox); have GW611 := qz HB hg; have GE611 := qz HB hg; replace HB := qs HB hb; clear hb hbox hg) | ((with_reducible refine gate_dst (N := 3) rfl ?_); refine box_event ?hg (N := 3) ?hd (cs := #[.int .i64 a1_0, .int .i64 a1_1, .string a1_2]) (t := 23) ?hr ?_; (case hd => rfl); (case hg => rfl); (case hr => first | (go_simp; done) | (go_simp; rfl)); intro gb612 hg w6 hbox hb; have BK612 := Aside0.mk (hbox); have GW612 := qz HB hg; have GE612 := qz HB hg; have NB611_612 := ql BK611 hg; have NB612_611 := qg BK611 hg; replace BK611 := qb BK611 hb; replace HB := qs HB hb; clear hb hbox hg) | ((with_reducible refine gate_dst (N := 4) rfl ?_); refine box_event ?hg (N := 4) ?hd (cs := #[.int .i64 0, .int .i64 0, .string (⟨#[]⟩ : ByteArray)]) (t := 23) ?hr ?_; (case hd => rfl); (case hg => rfl); (case hr => first | (go_simp; done) | (go_simp; rfl)); intro gb613 hg w7 hbox hb; have BK613 := Aside0.mk (hbox); have GW613 := qz HB hg; have GE613 := qz HB hg; have NB611_613 := ql BK611 hg; have NB613_611 := qg BK611 hg; have NB612_613 := ql BK612 hg; have NB613_612 := qg BK612 hg; replace BK611 := qb BK611 hb; replace BK612 := qb BK612 hb; replace HB := qs HB hb; clear hb hbox hg; have hnb8 := NB611_612.out; have hnc8 := NB612_611.out; have hnb9 := NB611_613.out; have hnc9 := NB613_611.out; obtain ⟨hcz10_0, hcz10_1, hcz10_2, hfz10_0, hfz10_1, hfz10_2⟩ := qc3 BK611; have hnb11 := NB612_613.out; have hnc11 := NB613_612.out; obtain ⟨hcz12_0, hcz12_1, hcz12_2, hfz12_0, hfz12_1, hfz12_2⟩ := qc3 BK612) | ((with_reducible refine gate_callee (f := 37) rfl ?_); refine qgo (some 18) rfl rfl Try.func37 #[.agg #[.int .i64 a0_0, .int .i64 a0_1, .string a0_2], .agg #[.int .i64 a1_0, .int .i64 a1_1, .string a1_2], .bool true] rfl ?_; (with_reducible refine (marqueeref02_first.calls k a0_0 a0_1 a0_2 a1_0 a1_1 a1_2 true t614 true _ A3.out).mono ?_); rintro e w13 ⟨rfl, hb⟩; refine ⟨_, rfl, ?_⟩; replace BK611 := qb BK611 hb; replace BK612 := qb BK612 hb; replace BK613 := qb BK613 hb; replace HB := qs HB hb; (try clear hb); (try clear hb2); (try clear hk); (try clear hi); (try clear A3); obtain ⟨hcz14_0, hcz14_1, hcz14_2, hfz14_0, hfz14_1, hfz14_2⟩ := qc3 BK613))
    refine bodyPost_ret (results_ct rfl _ _ gb613 23 #[.int .i64 0, .int .i64 0, .string (⟨#[]⟩ : ByteArray)] (0, 0) _ rfl (by (with_reducible repeat (first | refine blk_drewN ?_ _ | refine blk_drew ?_ | refine blk_alloc ?_ _)); refine blk_put (cs := #[.int .i64 0, .int .i64 0, .string (⟨#[]⟩ : ByteArray)]) ?_ 2 _ rfl; (with_reducible repeat (first | refine blk_drewN ?_ _ | refine blk_drew ?_ | refine blk_alloc ?_ _)); refine blk_put (cs := #[.int .i64 0, .int .i64 0, .string (⟨#[]⟩ : ByteArray)]) ?_ 1 _ rfl; (with_reducible repeat (first | refine blk_drewN ?_ _ | refine blk_drew ?_ | refine blk_alloc ?_ _)); refine blk_put (cs := #[.int .i64 0, .int .i64 0, .string (⟨#[]⟩ : ByteArray)]) ?_ 0 _ rfl; (with_reducible repeat (first | refine blk_drewN ?_ _ | refine blk_drew ?_ | refine blk_alloc ?_ _)); exact BK613.out) Try.underlying23 rfl (by kernel_rfl)) rfl ?_
    exact ⟨by first | rfl | (simp [errW_none, errW_some] <;> rfl) | (simp [*, errW_none, errW_some] <;> rfl), by repeat (first | (with_reducible first | exact HB.out | apply below_alloc | apply pw_below_drewN | apply below_drew1 | refine below_set ?_ GE611.out | refine below_set ?_ GE612.out | refine below_set ?_ GE613.out) | exact HB.out)⟩
  · replace c4 := Bool.eq_false_iff.mpr c4
    subst c4
    have H1 : (if a0_0 = 2 then (marqueeref02_Div.j0 k (a1_0 == 2) a0_0 a0_1 a0_2 a1_0 a1_1 a1_2) else (marqueeref02_Div.j0 k false a0_0 a0_1 a0_2 a1_0 a1_1 a1_2)) = some (r1, r2, r3, r4) := by rw [if_neg (show ¬ (false = true) by decide)] at H; exact H
    clear H
    have H := H1
    clear H1
    have HC15 := Aside0.mk H
    clear H
    go_enter Try.func23, Try.ntmps23
    go_upto_region 4 with (first | ((with_reducible refine gate_dst (N := 2) rfl ?_); refine box_event ?hg (N := 2) ?hd (cs := #[.int .i64 a0_0, .int .i64 a0_1, .string a0_2]) (t := 23) ?hr ?_; (case hd => rfl); (case hg => rfl); (case hr => first | (go_simp; done) | (go_simp; rfl)); intro gb611 hg w16 hbox hb; have BK611 := Aside0.mk (hbox); have GW611 := qz HB hg; have GE611 := qz HB hg; replace HB := qs HB hb; clear hb hbox hg) | ((with_reducible refine gate_dst (N := 3) rfl ?_); refine box_event ?hg (N := 3) ?hd (cs := #[.int .i64 a1_0, .int .i64 a1_1, .string a1_2]) (t := 23) ?hr ?_; (case hd => rfl); (case hg => rfl); (case hr => first | (go_simp; done) | (go_simp; rfl)); intro gb612 hg w17 hbox hb; have BK612 := Aside0.mk (hbox); have GW612 := qz HB hg; have GE612 := qz HB hg; have NB611_612 := ql BK611 hg; have NB612_611 := qg BK611 hg; replace BK611 := qb BK611 hb; replace HB := qs HB hb; clear hb hbox hg) | ((with_reducible refine gate_dst (N := 4) rfl ?_); refine box_event ?hg (N := 4) ?hd (cs := #[.int .i64 0, .int .i64 0, .string (⟨#[]⟩ : ByteArray)]) (t := 23) ?hr ?_; (case hd => rfl); (case hg => rfl); (case hr => first | (go_simp; done) | (go_simp; rfl)); intro gb613 hg w18 hbox hb; have BK613 := Aside0.mk (hbox); have GW613 := qz HB hg; have GE613 := qz HB hg; have NB611_613 := ql BK611 hg; have NB613_611 := qg BK611 hg; have NB612_613 := ql BK612 hg; have NB613_612 := qg BK612 hg; replace BK611 := qb BK611 hb; replace BK612 := qb BK612 hb; replace HB := qs HB hb; clear hb hbox hg; have hnb19 := NB611_612.out; have hnc19 := NB612_611.out; have hnb20 := NB611_613.out; have hnc20 := NB613_611.out; obtain ⟨hcz21_0, hcz21_1, hcz21_2, hfz21_0, hfz21_1, hfz21_2⟩ := qc3 BK611; have hnb22 := NB612_613.out; have hnc22 := NB613_612.out; obtain ⟨hcz23_0, hcz23_1, hcz23_2, hfz23_0, hfz23_1, hfz23_2⟩ := qc3 BK612) | ((with_reducible refine gate_callee (f := 37) rfl ?_); refine qgo (some 18) rfl rfl Try.func37 #[.agg #[.int .i64 a0_0, .int .i64 a0_1, .string a0_2], .agg #[.int .i64 a1_0, .int .i64 a1_1, .string a1_2], .bool true] rfl ?_; (with_reducible refine (marqueeref02_first.calls k a0_0 a0_1 a0_2 a1_0 a1_1 a1_2 true t614 false _ A3.out).mono ?_); rintro e w24 ⟨rfl, hb⟩; refine ⟨_, rfl, ?_⟩; replace BK611 := qb BK611 hb; replace BK612 := qb BK612 hb; replace BK613 := qb BK613 hb; replace HB := qs HB hb; (try clear hb); (try clear hb2); (try clear hk); (try clear hi); (try clear A3)))
    (try simp only [Act.put, List.setIfInBounds_toArray, List.set_cons_zero, List.set_cons_succ])
    go_cut [31] (fun v31 wc => ∃ (kq : Nat) (x31_14 : Bool), v31 = .bool x31_14 ∧ Aside0 (marqueeref02_Div.j0 kq x31_14 a0_0 a0_1 a0_2 a1_0 a1_1 a1_2 = some (r1, r2, r3, r4)) ∧ Aside0 (kq ≤ k) ∧ Aside0 (wc.heap[gb611]? = some (.cells #[.int .i64 a0_0, .int .i64 a0_1, .string a0_2] 23 (0, 0))) ∧ Aside0 (wc.heap[gb612]? = some (.cells #[.int .i64 a1_0, .int .i64 a1_1, .string a1_2] 23 (0, 0))) ∧ Aside0 (wc.heap[gb613]? = some (.cells #[.int .i64 0, .int .i64 0, .string (⟨#[]⟩ : ByteArray)] 23 (0, 0))) ∧ Aside0 (Below w.heap.size w wc))
    case first =>
      have H := HC15.out
      clear HC15
      by_cases c25 : a0_0 = 2
      · rw [if_pos c25] at H
        have c25b0 : (a0_0 == 2) = true := beq_iff_eq.mpr c25
        have c25b1 : (a0_0 != 2) = false := bne_eq_false_iff_eq.mpr c25
        clear c25
        (first | rw [c25b0] | (simp only [i64_w, i32_w]; rw [c25b0]) | skip)
        have H' := Aside0.mk H
        clear H
        have hnb26 := NB611_612.out
        have hnc26 := NB612_611.out
        have hnb27 := NB611_613.out
        have hnc27 := NB613_611.out
        obtain ⟨hcz28_0, hcz28_1, hcz28_2, hfz28_0, hfz28_1, hfz28_2⟩ := qc3 BK611
        have hnb29 := NB612_613.out
        have hnc29 := NB613_612.out
        obtain ⟨hcz30_0, hcz30_1, hcz30_2, hfz30_0, hfz30_1, hfz30_2⟩ := qc3 BK612
        go_wp2
        go_meet
        case rel => exact ⟨_, ((a1_0 == 2)), (by first | rfl | (simp; done) | (simp [*]; done)), H', ⟨by first | omega | exact Nat.le_refl _⟩, ⟨by (with_reducible repeat (first | refine blk_drewN ?_ _ | refine blk_drew ?_ | refine blk_alloc ?_ _)); exact BK611.out⟩, ⟨by (with_reducible repeat (first | refine blk_drewN ?_ _ | refine blk_drew ?_ | refine blk_alloc ?_ _)); exact BK612.out⟩, ⟨by (with_reducible repeat (first | refine blk_drewN ?_ _ | refine blk_drew ?_ | refine blk_alloc ?_ _)); exact BK613.out⟩, ⟨by repeat (first | (with_reducible first | exact HB.out | apply below_alloc | apply pw_below_drewN | apply below_drew1 | refine below_set ?_ GE611.out | refine below_set ?_ GE612.out | refine below_set ?_ GE613.out) | exact HB.out)⟩⟩
      · rw [if_neg c25] at H
        have c25b0 : (a0_0 == 2) = false := beq_eq_false_iff_ne.mpr c25
        have c25b1 : (a0_0 != 2) = true := bne_iff_ne.mpr c25
        (first | rw [c25b0] | (simp only [i64_w, i32_w]; rw [c25b0]) | skip)
        have H' := Aside0.mk H
        clear H
        have hnb31 := NB611_612.out
        have hnc31 := NB612_611.out
        have hnb32 := NB611_613.out
        have hnc32 := NB613_611.out
        obtain ⟨hcz33_0, hcz33_1, hcz33_2, hfz33_0, hfz33_1, hfz33_2⟩ := qc3 BK611
        go_wp2
        go_meet
        case rel => exact ⟨_, (false), (by first | rfl | (simp; done) | (simp [*]; done)), H', ⟨by first | omega | exact Nat.le_refl _⟩, ⟨by (with_reducible repeat (first | refine blk_drewN ?_ _ | refine blk_drew ?_ | refine blk_alloc ?_ _)); exact BK611.out⟩, ⟨by (with_reducible repeat (first | refine blk_drewN ?_ _ | refine blk_drew ?_ | refine blk_alloc ?_ _)); exact BK612.out⟩, ⟨by (with_reducible repeat (first | refine blk_drewN ?_ _ | refine blk_drew ?_ | refine blk_alloc ?_ _)); exact BK613.out⟩, ⟨by repeat (first | (with_reducible first | exact HB.out | apply below_alloc | apply pw_below_drewN | apply below_drew1 | refine below_set ?_ GE611.out | refine below_set ?_ GE612.out | refine below_set ?_ GE613.out) | exact HB.out)⟩⟩
    case rest =>
      clear HC15
      try clear c1
      try clear c2
      try clear p2
      try clear c3
      try clear c4
      try clear c8
      try clear c9
      try clear c11
      try clear c19
      try clear c20
      try clear c22
      try clear c23
      try clear c25
      try clear c25b0
      try clear c25b1
      try clear c26
      try clear c27
      try clear c29
      try clear c31
      try clear c32
      try clear hcz10_0
      try clear hcz10_1
      try clear hcz10_2
      try clear hcz12_0
      try clear hcz12_1
      try clear hcz12_2
      try clear hcz14_0
      try clear hcz14_1
      try clear hcz14_2
      try clear hcz21_0
      try clear hcz21_1
      try clear hcz21_2
      try clear hcz23_0
      try clear hcz23_1
      try clear hcz23_2
      try clear hcz28_0
      try clear hcz28_1
      try clear hcz28_2
      try clear hcz30_0
      try clear hcz30_1
      try clear hcz30_2
      try clear hcz33_0
      try clear hcz33_1
      try clear hcz33_2
      try clear hfz10_0
      try clear hfz10_1
      try clear hfz10_2
      try clear hfz12_0
      try clear hfz12_1
      try clear hfz12_2
      try clear hfz14_0
      try clear hfz14_1
      try clear hfz14_2
      try clear hfz21_0
      try clear hfz21_1
      try clear hfz21_2
      try clear hfz23_0
      try clear hfz23_1
      try clear hfz23_2
      try clear hfz28_0
      try clear hfz28_1
      try clear hfz28_2
      try clear hfz30_0
      try clear hfz30_1
      try clear hfz30_2
      try clear hfz33_0
      try clear hfz33_1
      try clear hfz33_2
      obtain ⟨kq, x31_14, rfl, HA, HJ14, BK611, BK612, BK613, HB⟩ := hcut
      cases kq with
      | zero => exact absurd HA.out (by simp [marqueeref02_Div.j0])
      | succ kj14 =>
        have H := HA.out
        clear HA
        simp only [marqueeref02_Div.j0] at H
        by_cases c34 : x31_14 = true
        · subst c34
          have H1 : ((marqueeref02_mulDiv.f kj14 a0_1 1 a1_1).bind fun bt616 => ((marqueeref02_of.f 2 bt616.1 bt616.2).bind fun bt618 => (some (bt618.1, bt618.2.1, bt618.2.2.1, bt618.2.2.2)))) = some (r1, r2, r3, r4) := by rw [if_pos rfl] at H; exact H
          clear H
          have H := H1
          clear H1
          replace H := Option.bind_eq_some_iff.mp H
          obtain ⟨⟨t616, t617⟩, A350, H⟩ := H
          replace H : ((marqueeref02_of.f 2 t616 t617).bind fun bt618 => (some (bt618.1, bt618.2.1, bt618.2.2.1, bt618.2.2.2))) = some (r1, r2, r3, r4) := H
          have A35 := Aside0.mk A350
          clear A350
          replace H := Option.bind_eq_some_iff.mp H
          obtain ⟨⟨t618, t619, t620, t621⟩, A360, H⟩ := H
          replace H : (some (t618, t619, t620, t621)) = some (r1, r2, r3, r4) := H
          have A36 := Aside0.mk A360
          clear A360
          simp only [Option.some.injEq, Prod.mk.injEq] at H
          obtain ⟨rfl, rfl, rfl, rfl⟩ := H
          have hnb37 := NB611_612.out
          have hnc37 := NB612_611.out
          have hnb38 := NB611_613.out
          have hnc38 := NB613_611.out
          obtain ⟨hcz39_0, hcz39_1, hcz39_2, hfz39_0, hfz39_1, hfz39_2⟩ := qc3 BK611
          have hnb40 := NB612_613.out
          have hnc40 := NB613_612.out
          obtain ⟨hcz41_0, hcz41_1, hcz41_2, hfz41_0, hfz41_1, hfz41_2⟩ := qc3 BK612
          go_wp2_with (first | ((with_reducible refine gate_callee (f := 42) rfl ?_); refine qgo (some 37) rfl rfl Try.func42 #[.int .i64 a0_1, .int .i64 1, .int .i64 a1_1] rfl ?_; (with_reducible refine (marqueeref02_mulDiv.calls kj14 a0_1 1 a1_1 t616 t617 _ A35.out).mono ?_); rintro e w' ⟨rfl, ⟨nd, rfl⟩⟩; refine ⟨_, rfl, ?_⟩; (try (rw [drewN_self wc]; generalize hq_ : World.drewN wc _ = wc; have n0_ : Aside0 (wc.heap[gb611]? = some (.cells #[.int .i64 a0_0, .int .i64 a0_1, .string a0_2] 23 (0, 0))) := ⟨by rw [← hq_]; exact (by (with_reducible repeat (first | refine blk_drewN ?_ _ | refine blk_drew ?_ | refine blk_alloc ?_ _)); exact BK611.out)⟩; have n1_ : Aside0 (wc.heap[gb612]? = some (.cells #[.int .i64 a1_0, .int .i64 a1_1, .string a1_2] 23 (0, 0))) := ⟨by rw [← hq_]; exact (by (with_reducible repeat (first | refine blk_drewN ?_ _ | refine blk_drew ?_ | refine blk_alloc ?_ _)); exact BK612.out)⟩; have n2_ : Aside0 (wc.heap[gb613]? = some (.cells #[.int .i64 0, .int .i64 0, .string (⟨#[]⟩ : ByteArray)] 23 (0, 0))) := ⟨by rw [← hq_]; exact (by (with_reducible repeat (first | refine blk_drewN ?_ _ | refine blk_drew ?_ | refine blk_alloc ?_ _)); exact BK613.out)⟩; have n3_ : Aside0 (Below w.heap.size w wc) := ⟨by rw [← hq_]; exact (by repeat (first | (with_reducible first | exact HB.out | apply below_alloc | apply pw_below_drewN | apply below_drew1 | refine below_set ?_ GE611.out | refine below_set ?_ GE612.out | refine below_set ?_ GE613.out) | exact HB.out))⟩; clear BK611 BK612 BK613 HB hq_; have BK611 := n0_; have BK612 := n1_; have BK613 := n2_; have HB := n3_; clear n0_ n1_ n2_ n3_))) | ((with_reducible refine gate_callee (f := 38) rfl ?_); refine qgo (some 42) rfl rfl Try.func38 #[.int .i64 2, .int .i64 t616, .bool t617] rfl ?_; (with_reducible refine (marqueeref02_of.calls 2 t616 t617 t618 t619 t620 t621 _ A36.out).mono ?_); rintro e w42 ⟨rfl, hb⟩; refine ⟨_, rfl, ?_⟩; replace BK611 := qb BK611 hb; replace BK612 := qb BK612 hb; replace BK613 := qb BK613 hb; replace HB := qs HB hb; (try clear hb); (try clear hb2); (try clear hk); (try clear hi); (try clear A36); obtain ⟨hcz43_0, hcz43_1, hcz43_2, hfz43_0, hfz43_1, hfz43_2⟩ := qc3 BK613))
          refine bodyPost_ret (results_ct rfl _ _ gb613 23 #[.int .i64 t618, .int .i64 t619, .string t620] (0, 0) _ rfl (by (with_reducible repeat (first | refine blk_drewN ?_ _ | refine blk_drew ?_ | refine blk_alloc ?_ _)); refine blk_put (cs := #[.int .i64 t618, .int .i64 t619, .string (⟨#[]⟩ : ByteArray)]) ?_ 2 _ rfl; (with_reducible repeat (first | refine blk_drewN ?_ _ | refine blk_drew ?_ | refine blk_alloc ?_ _)); refine blk_put (cs := #[.int .i64 t618, .int .i64 0, .string (⟨#[]⟩ : ByteArray)]) ?_ 1 _ rfl; (with_reducible repeat (first | refine blk_drewN ?_ _ | refine blk_drew ?_ | refine blk_alloc ?_ _)); refine blk_put (cs := #[.int .i64 0, .int .i64 0, .string (⟨#[]⟩ : ByteArray)]) ?_ 0 _ rfl; (with_reducible repeat (first | refine blk_drewN ?_ _ | refine blk_drew ?_ | refine blk_alloc ?_ _)); exact BK613.out) Try.underlying23 rfl (by kernel_rfl)) rfl ?_
          exact ⟨by first | rfl | (simp [errW_none, errW_some] <;> rfl) | (simp [*, errW_none, errW_some] <;> rfl), by repeat (first | (with_reducible first | exact HB.out | apply below_alloc | apply pw_below_drewN | apply below_drew1 | refine below_set ?_ GE611.out | refine below_set ?_ GE612.out | refine below_set ?_ GE613.out) | exact HB.out)⟩
        · replace c34 := Bool.eq_false_iff.mpr c34
          subst c34
          have H1 : ((marqueeref02_decs.f a0_0 a0_1 a0_2 a1_0 a1_1 a1_2).bind fun bt622 => (if bt622.2.2 = true then ((marqueeref02_mulDiv.f kj14 bt622.1 10000 bt622.2.1).bind fun bt625 => ((marqueeref02_of.f 3 bt625.1 bt625.2).bind fun bt627 => (some (bt627.1, bt627.2.1, bt627.2.2.1, bt627.2.2.2)))) else (some (0, 0, (⟨#[]⟩ : ByteArray), 20)))) = some (r1, r2, r3, r4) := by rw [if_neg (show ¬ (false = true) by decide)] at H; exact H
          clear H
          have H := H1
          clear H1
          replace H := Option.bind_eq_some_iff.mp H
          obtain ⟨⟨t622, t623, t624⟩, A440, H⟩ := H
          replace H : (if t624 = true then ((marqueeref02_mulDiv.f kj14 t622 10000 t623).bind fun bt625 => ((marqueeref02_of.f 3 bt625.1 bt625.2).bind fun bt627 => (some (bt627.1, bt627.2.1, bt627.2.2.1, bt627.2.2.2)))) else (some (0, 0, (⟨#[]⟩ : ByteArray), 20))) = some (r1, r2, r3, r4) := H
          have A44 := Aside0.mk A440
          clear A440
          by_cases c45 : t624 = true
          · subst c45
            have H1 : ((marqueeref02_mulDiv.f kj14 t622 10000 t623).bind fun bt625 => ((marqueeref02_of.f 3 bt625.1 bt625.2).bind fun bt627 => (some (bt627.1, bt627.2.1, bt627.2.2.1, bt627.2.2.2)))) = some (r1, r2, r3, r4) := by rw [if_pos rfl] at H; exact H
            clear H
            have H := H1
            clear H1
            replace H := Option.bind_eq_some_iff.mp H
            obtain ⟨⟨t625, t626⟩, A460, H⟩ := H
            replace H : ((marqueeref02_of.f 3 t625 t626).bind fun bt627 => (some (bt627.1, bt627.2.1, bt627.2.2.1, bt627.2.2.2))) = some (r1, r2, r3, r4) := H
            have A46 := Aside0.mk A460
            clear A460
            replace H := Option.bind_eq_some_iff.mp H
            obtain ⟨⟨t627, t628, t629, t630⟩, A470, H⟩ := H
            replace H : (some (t627, t628, t629, t630)) = some (r1, r2, r3, r4) := H
            have A47 := Aside0.mk A470
            clear A470
            simp only [Option.some.injEq, Prod.mk.injEq] at H
            obtain ⟨rfl, rfl, rfl, rfl⟩ := H
            have hnb48 := NB611_612.out
            have hnc48 := NB612_611.out
            have hnb49 := NB611_613.out
            have hnc49 := NB613_611.out
            obtain ⟨hcz50_0, hcz50_1, hcz50_2, hfz50_0, hfz50_1, hfz50_2⟩ := qc3 BK611
            have hnb51 := NB612_613.out
            have hnc51 := NB613_612.out
            obtain ⟨hcz52_0, hcz52_1, hcz52_2, hfz52_0, hfz52_1, hfz52_2⟩ := qc3 BK612
            go_wp2_with (first | ((with_reducible refine gate_callee (f := 40) rfl ?_); refine qgo (some 48) rfl rfl Try.func40 #[.agg #[.int .i64 a0_0, .int .i64 a0_1, .string a0_2], .agg #[.int .i64 a1_0, .int .i64 a1_1, .string a1_2]] rfl ?_; (with_reducible refine (marqueeref02_decs.calls a0_0 a0_1 a0_2 a1_0 a1_1 a1_2 t622 t623 true _ A44.out).mono ?_); rintro e w53 ⟨rfl, hb⟩; refine ⟨_, rfl, ?_⟩; replace BK611 := qb BK611 hb; replace BK612 := qb BK612 hb; replace BK613 := qb BK613 hb; replace HB := qs HB hb; (try clear hb); (try clear hb2); (try clear hk); (try clear hi); (try clear A44)) | ((with_reducible refine gate_callee (f := 42) rfl ?_); refine qgo (some 58) rfl rfl Try.func42 #[.int .i64 t622, .int .i64 10000, .int .i64 t623] rfl ?_; (with_reducible refine (marqueeref02_mulDiv.calls kj14 t622 10000 t623 t625 t626 _ A46.out).mono ?_); rintro e w' ⟨rfl, ⟨nd, rfl⟩⟩; refine ⟨_, rfl, ?_⟩; (try (rw [drewN_self w53]; generalize hq_ : World.drewN w53 _ = w53; have n0_ : Aside0 (w53.heap[gb611]? = some (.cells #[.int .i64 a0_0, .int .i64 a0_1, .string a0_2] 23 (0, 0))) := ⟨by rw [← hq_]; exact (by (with_reducible repeat (first | refine blk_drewN ?_ _ | refine blk_drew ?_ | refine blk_alloc ?_ _)); exact BK611.out)⟩; have n1_ : Aside0 (w53.heap[gb612]? = some (.cells #[.int .i64 a1_0, .int .i64 a1_1, .string a1_2] 23 (0, 0))) := ⟨by rw [← hq_]; exact (by (with_reducible repeat (first | refine blk_drewN ?_ _ | refine blk_drew ?_ | refine blk_alloc ?_ _)); exact BK612.out)⟩; have n2_ : Aside0 (w53.heap[gb613]? = some (.cells #[.int .i64 0, .int .i64 0, .string (⟨#[]⟩ : ByteArray)] 23 (0, 0))) := ⟨by rw [← hq_]; exact (by (with_reducible repeat (first | refine blk_drewN ?_ _ | refine blk_drew ?_ | refine blk_alloc ?_ _)); exact BK613.out)⟩; have n3_ : Aside0 (Below w.heap.size w w53) := ⟨by rw [← hq_]; exact (by repeat (first | (with_reducible first | exact HB.out | apply below_alloc | apply pw_below_drewN | apply below_drew1 | refine below_set ?_ GE611.out | refine below_set ?_ GE612.out | refine below_set ?_ GE613.out) | exact HB.out))⟩; clear BK611 BK612 BK613 HB hq_; have BK611 := n0_; have BK612 := n1_; have BK613 := n2_; have HB := n3_; clear n0_ n1_ n2_ n3_))) | ((with_reducible refine gate_callee (f := 38) rfl ?_); refine qgo (some 63) rfl rfl Try.func38 #[.int .i64 3, .int .i64 t625, .bool t626] rfl ?_; (with_reducible refine (marqueeref02_of.calls 3 t625 t626 t627 t628 t629 t630 _ A47.out).mono ?_); rintro e w54 ⟨rfl, hb⟩; refine ⟨_, rfl, ?_⟩; replace BK611 := qb BK611 hb; replace BK612 := qb BK612 hb; replace BK613 := qb BK613 hb; replace HB := qs HB hb; (try clear hb); (try clear hb2); (try clear hk); (try clear hi); (try clear A47); obtain ⟨hcz55_0, hcz55_1, hcz55_2, hfz55_0, hfz55_1, hfz55_2⟩ := qc3 BK613))
            refine bodyPost_ret (results_ct rfl _ _ gb613 23 #[.int .i64 t627, .int .i64 t628, .string t629] (0, 0) _ rfl (by (with_reducible repeat (first | refine blk_drewN ?_ _ | refine blk_drew ?_ | refine blk_alloc ?_ _)); refine blk_put (cs := #[.int .i64 t627, .int .i64 t628, .string (⟨#[]⟩ : ByteArray)]) ?_ 2 _ rfl; (with_reducible repeat (first | refine blk_drewN ?_ _ | refine blk_drew ?_ | refine blk_alloc ?_ _)); refine blk_put (cs := #[.int .i64 t627, .int .i64 0, .string (⟨#[]⟩ : ByteArray)]) ?_ 1 _ rfl; (with_reducible repeat (first | refine blk_drewN ?_ _ | refine blk_drew ?_ | refine blk_alloc ?_ _)); refine blk_put (cs := #[.int .i64 0, .int .i64 0, .string (⟨#[]⟩ : ByteArray)]) ?_ 0 _ rfl; (with_reducible repeat (first | refine blk_drewN ?_ _ | refine blk_drew ?_ | refine blk_alloc ?_ _)); exact BK613.out) Try.underlying23 rfl (by kernel_rfl)) rfl ?_
            exact ⟨by first | rfl | (simp [errW_none, errW_some] <;> rfl) | (simp [*, errW_none, errW_some] <;> rfl), by repeat (first | (with_reducible first | exact HB.out | apply below_alloc | apply pw_below_drewN | apply below_drew1 | refine below_set ?_ GE611.out | refine below_set ?_ GE612.out | refine below_set ?_ GE613.out) | exact HB.out)⟩
          · replace c45 := Bool.eq_false_iff.mpr c45
            subst c45
            have H1 : (some (0, 0, (⟨#[]⟩ : ByteArray), 20)) = some (r1, r2, r3, r4) := by rw [if_neg (show ¬ (false = true) by decide)] at H; exact H
            clear H
            have H := H1
            clear H1
            simp only [Option.some.injEq, Prod.mk.injEq] at H
            obtain ⟨rfl, rfl, rfl, rfl⟩ := H
            have hnb56 := NB611_612.out
            have hnc56 := NB612_611.out
            have hnb57 := NB611_613.out
            have hnc57 := NB613_611.out
            obtain ⟨hcz58_0, hcz58_1, hcz58_2, hfz58_0, hfz58_1, hfz58_2⟩ := qc3 BK611
            have hnb59 := NB612_613.out
            have hnc59 := NB613_612.out
            obtain ⟨hcz60_0, hcz60_1, hcz60_2, hfz60_0, hfz60_1, hfz60_2⟩ := qc3 BK612
            go_wp2_with (first | ((with_reducible refine gate_callee (f := 40) rfl ?_); refine qgo (some 48) rfl rfl Try.func40 #[.agg #[.int .i64 a0_0, .int .i64 a0_1, .string a0_2], .agg #[.int .i64 a1_0, .int .i64 a1_1, .string a1_2]] rfl ?_; (with_reducible refine (marqueeref02_decs.calls a0_0 a0_1 a0_2 a1_0 a1_1 a1_2 t622 t623 false _ A44.out).mono ?_); rintro e w61 ⟨rfl, hb⟩; refine ⟨_, rfl, ?_⟩; replace BK611 := qb BK611 hb; replace BK612 := qb BK612 hb; replace BK613 := qb BK613 hb; replace HB := qs HB hb; (try clear hb); (try clear hb2); (try clear hk); (try clear hi); (try clear A44); obtain ⟨hcz62_0, hcz62_1, hcz62_2, hfz62_0, hfz62_1, hfz62_2⟩ := qc3 BK613))
            refine bodyPost_ret (results_ct rfl _ _ gb613 23 #[.int .i64 0, .int .i64 0, .string (⟨#[]⟩ : ByteArray)] (0, 0) _ rfl (by (with_reducible repeat (first | refine blk_drewN ?_ _ | refine blk_drew ?_ | refine blk_alloc ?_ _)); refine blk_put (cs := #[.int .i64 0, .int .i64 0, .string (⟨#[]⟩ : ByteArray)]) ?_ 2 _ rfl; (with_reducible repeat (first | refine blk_drewN ?_ _ | refine blk_drew ?_ | refine blk_alloc ?_ _)); refine blk_put (cs := #[.int .i64 0, .int .i64 0, .string (⟨#[]⟩ : ByteArray)]) ?_ 1 _ rfl; (with_reducible repeat (first | refine blk_drewN ?_ _ | refine blk_drew ?_ | refine blk_alloc ?_ _)); refine blk_put (cs := #[.int .i64 0, .int .i64 0, .string (⟨#[]⟩ : ByteArray)]) ?_ 0 _ rfl; (with_reducible repeat (first | refine blk_drewN ?_ _ | refine blk_drew ?_ | refine blk_alloc ?_ _)); exact BK613.out) Try.underlying23 rfl (by kernel_rfl)) rfl ?_
            exact ⟨by first | rfl | (simp [errW_none, errW_some] <;> rfl) | (simp [*, errW_none, errW_some] <;> rfl), by repeat (first | (with_reducible first | exact HB.out | apply below_alloc | apply pw_below_drewN | apply below_drew1 | refine below_set ?_ GE611.out | refine below_set ?_ GE612.out | refine below_set ?_ GE613.out) | exact HB.out)⟩

/-! ### marqueeref02_Mod: function 24 -/
mutual
def marqueeref02_Mod.j0 : Nat → Int → Int → Int → Bool → Bool → Int → Int → ByteArray → Int → Int → ByteArray → Option (Int × Int × ByteArray × Int)
  | 0, _, _, _, _, _, _, _, _, _, _, _ => none
  | k + 1, x8, x9, x10, x11, x33, x632000, x632001, x632002, x633000, x633001, x633002 => if x33 = true then ((marqueeref02_decs.f x632000 x632001 x632002 x633000 x633001 x633002).bind fun bt636 => (marqueeref02_Mod.j1 k 3 bt636.1 bt636.2.1 bt636.2.2)) else (marqueeref02_Mod.j1 k x8 x9 x10 x11)
def marqueeref02_Mod.j1 : Nat → Int → Int → Int → Bool → Option (Int × Int × ByteArray × Int)
  | 0, _, _, _, _ => none
  | k + 1, x8, x9, x10, x11 => if x11 = true then (if x10 = (-1) then ((marqueeref02_of.f x8 0 true).bind fun bt639 => (some (bt639.1, bt639.2.1, bt639.2.2.1, bt639.2.2.2))) else (if x10 = 0 then (none) else ((marqueeref02_of.f x8 (Int.tmod x9 x10) true).bind fun bt643 => (some (bt643.1, bt643.2.1, bt643.2.2.1, bt643.2.2.2))))) else (some (0, 0, (⟨#[]⟩ : ByteArray), 20))
end
def marqueeref02_Mod.f (k : Nat) (a0_0 : Int) (a0_1 : Int) (a0_2 : ByteArray) (a1_0 : Int) (a1_1 : Int) (a1_2 : ByteArray) : Option (Int × Int × ByteArray × Int) := (marqueeref02_first.f k a0_0 a0_1 a0_2 a1_0 a1_1 a1_2 true).bind fun bt634 => (if bt634.2 = true then (some (0, 0, (⟨#[]⟩ : ByteArray), bt634.1)) else (if a0_0 = 3 then (marqueeref02_Mod.j0 k 2 a0_1 a1_1 true true a0_0 a0_1 a0_2 a1_0 a1_1 a1_2) else (marqueeref02_Mod.j0 k 2 a0_1 a1_1 true (a1_0 == 3) a0_0 a0_1 a0_2 a1_0 a1_1 a1_2)))
theorem marqueeref02_Mod.mono_l : ∀ k, (∀ y0 y1 y2 y3 y4 y5 y6 y7 y8 y9 y10, LeO (marqueeref02_Mod.j0 k y0 y1 y2 y3 y4 y5 y6 y7 y8 y9 y10) (marqueeref02_Mod.j0 (k + 1) y0 y1 y2 y3 y4 y5 y6 y7 y8 y9 y10)) ∧ (∀ y0 y1 y2 y3, LeO (marqueeref02_Mod.j1 k y0 y1 y2 y3) (marqueeref02_Mod.j1 (k + 1) y0 y1 y2 y3))
  | 0 => ⟨fun _ _ _ _ _ _ _ _ _ _ _ r h => by simp [marqueeref02_Mod.j0] at h, fun _ _ _ _ r h => by simp [marqueeref02_Mod.j1] at h⟩
  | k + 1 => by
    obtain ⟨ih0, ih1⟩ := marqueeref02_Mod.mono_l k
    refine ⟨?_, ?_⟩
    · intro y0 y1 y2 y3 y4 y5 y6 y7 y8 y9 y10
      unfold marqueeref02_Mod.j0
      repeat' first
      | (with_reducible exact ih0 _ _ _ _ _ _ _ _ _ _ _)
      | (with_reducible exact ih1 _ _ _ _)
      | (with_reducible exact marqueeref02_first.mono _ _ _ _ _ _ _ _)
      | (with_reducible exact LeO.refl _)
      | (with_reducible exact LeO.none _)
      | (with_reducible refine LeO.ite ?_ ?_)
      | (with_reducible refine LeO.bind ?_ (fun _ => ?_))
      | exact ih0 _ _ _ _ _ _ _ _ _ _ _
      | exact ih1 _ _ _ _
      | exact marqueeref02_first.mono _ _ _ _ _ _ _ _
      | exact LeO.none _
      | refine LeO.ite ?_ ?_
      | refine LeO.bind ?_ (fun _ => ?_)
    · intro y0 y1 y2 y3
      unfold marqueeref02_Mod.j1
      repeat' first
      | (with_reducible exact ih0 _ _ _ _ _ _ _ _ _ _ _)
      | (with_reducible exact ih1 _ _ _ _)
      | (with_reducible exact marqueeref02_first.mono _ _ _ _ _ _ _ _)
      | (with_reducible exact LeO.refl _)
      | (with_reducible exact LeO.none _)
      | (with_reducible refine LeO.ite ?_ ?_)
      | (with_reducible refine LeO.bind ?_ (fun _ => ?_))
      | exact ih0 _ _ _ _ _ _ _ _ _ _ _
      | exact ih1 _ _ _ _
      | exact marqueeref02_first.mono _ _ _ _ _ _ _ _
      | exact LeO.none _
      | refine LeO.ite ?_ ?_
      | refine LeO.bind ?_ (fun _ => ?_)
theorem marqueeref02_Mod.mono : ∀ a0 a1 a2 a3 a4 a5 k, LeO (marqueeref02_Mod.f k a0 a1 a2 a3 a4 a5) (marqueeref02_Mod.f (k + 1) a0 a1 a2 a3 a4 a5) := by
  intro a0 a1 a2 a3 a4 a5 k
  obtain ⟨ih0, ih1⟩ := marqueeref02_Mod.mono_l k
  unfold marqueeref02_Mod.f
  repeat' first
      | (with_reducible exact ih0 _ _ _ _ _ _ _ _ _ _ _)
      | (with_reducible exact ih1 _ _ _ _)
      | (with_reducible exact marqueeref02_first.mono _ _ _ _ _ _ _ _)
      | (with_reducible exact LeO.refl _)
      | (with_reducible exact LeO.none _)
      | (with_reducible refine LeO.ite ?_ ?_)
      | (with_reducible refine LeO.bind ?_ (fun _ => ?_))
      | exact ih0 _ _ _ _ _ _ _ _ _ _ _
      | exact ih1 _ _ _ _
      | exact marqueeref02_first.mono _ _ _ _ _ _ _ _
      | exact LeO.none _
      | refine LeO.ite ?_ ?_
      | refine LeO.bind ?_ (fun _ => ?_)
set_option maxHeartbeats 8000000 in
set_option maxRecDepth 100000 in
theorem marqueeref02_Mod.calls (k : Nat) (a0_0 : Int) (a0_1 : Int) (a0_2 : ByteArray) (a1_0 : Int) (a1_1 : Int) (a1_2 : ByteArray) (r1 : Int) (r2 : Int) (r3 : ByteArray) (r4 : Int) (w : World) (h : marqueeref02_Mod.f k a0_0 a0_1 a0_2 a1_0 a1_1 a1_2 = some (r1, r2, r3, r4)) :
    Calls Try.prog 24 #[.agg #[.int .i64 a0_0, .int .i64 a0_1, .string a0_2], .agg #[.int .i64 a1_0, .int .i64 a1_1, .string a1_2]] w fun e w' => e = .returned (.tuple #[.agg #[.int .i64 r1, .int .i64 r2, .string r3], .int .i64 r4]) ∧ Below w.heap.size w w' := by
  have hu23 := Try.underlying23
  have HB := Aside0.mk (Below.refl w.heap.size w)
  have H : ((marqueeref02_first.f k a0_0 a0_1 a0_2 a1_0 a1_1 a1_2 true).bind fun bt634 => (if bt634.2 = true then (some (0, 0, (⟨#[]⟩ : ByteArray), bt634.1)) else (if a0_0 = 3 then (marqueeref02_Mod.j0 k 2 a0_1 a1_1 true true a0_0 a0_1 a0_2 a1_0 a1_1 a1_2) else (marqueeref02_Mod.j0 k 2 a0_1 a1_1 true (a1_0 == 3) a0_0 a0_1 a0_2 a1_0 a1_1 a1_2)))) = some (r1, r2, r3, r4) := h
  clear h
  replace H := Option.bind_eq_some_iff.mp H
  obtain ⟨⟨t634, t635⟩, A30, H⟩ := H
  replace H : (if t635 = true then (some (0, 0, (⟨#[]⟩ : ByteArray), t634)) else (if a0_0 = 3 then (marqueeref02_Mod.j0 k 2 a0_1 a1_1 true true a0_0 a0_1 a0_2 a1_0 a1_1 a1_2) else (marqueeref02_Mod.j0 k 2 a0_1 a1_1 true (a1_0 == 3) a0_0 a0_1 a0_2 a1_0 a1_1 a1_2))) = some (r1, r2, r3, r4) := H
  have A3 := Aside0.mk A30
  clear A30
  by_cases c4 : t635 = true
  · subst c4
    have H1 : (some (0, 0, (⟨#[]⟩ : ByteArray), t634)) = some (r1, r2, r3, r4) := by rw [if_pos rfl] at H; exact H
    clear H
    have H := H1
    clear H1
    simp only [Option.some.injEq, Prod.mk.injEq] at H
    obtain ⟨rfl, rfl, rfl, rfl⟩ := H
    go_enter Try.func24, Try.ntmps24
    go_wp2_with (first | ((with_reducible refine gate_dst (N := 2) rfl ?_); refine box_event ?hg (N := 2) ?hd (cs := #[.int .i64 a0_0, .int .i64 a0_1, .string a0_2]) (t := 23) ?hr ?_; (case hd => rfl); (case hg => rfl); (case hr => first | (go_simp; done) | (go_simp; rfl)); intro gb631 hg w5 hbox hb; have BK631 := Aside0.mk (hbox); have GW631 := qz HB hg; have GE631 := qz HB hg; replace HB := qs HB hb; clear hb hbox hg) | ((with_reducible refine gate_dst (N := 3) rfl ?_); refine box_event ?hg (N := 3) ?hd (cs := #[.int .i64 a1_0, .int .i64 a1_1, .string a1_2]) (t := 23) ?hr ?_; (case hd => rfl); (case hg => rfl); (case hr => first | (go_simp; done) | (go_simp; rfl)); intro gb632 hg w6 hbox hb; have BK632 := Aside0.mk (hbox); have GW632 := qz HB hg; have GE632 := qz HB hg; have NB631_632 := ql BK631 hg; have NB632_631 := qg BK631 hg; replace BK631 := qb BK631 hb; replace HB := qs HB hb; clear hb hbox hg) | ((with_reducible refine gate_dst (N := 4) rfl ?_); refine box_event ?hg (N := 4) ?hd (cs := #[.int .i64 0, .int .i64 0, .string (⟨#[]⟩ : ByteArray)]) (t := 23) ?hr ?_; (case hd => rfl); (case hg => rfl); (case hr => first | (go_simp; done) | (go_simp; rfl)); intro gb633 hg w7 hbox hb; have BK633 := Aside0.mk (hbox); have GW633 := qz HB hg; have GE633 := qz HB hg; have NB631_633 := ql BK631 hg; have NB633_631 := qg BK631 hg; have NB632_633 := ql BK632 hg; have NB633_632 := qg BK632 hg; replace BK631 := qb BK631 hb; replace BK632 := qb BK632 hb; replace HB := qs HB hb; clear hb hbox hg; have hnb8 := NB631_632.out; have hnc8 := NB632_631.out; have hnb9 := NB631_633.out; have hnc9 := NB633_631.out; obtain ⟨hcz10_0, hcz10_1, hcz10_2, hfz10_0, hfz10_1, hfz10_2⟩ := qc3 BK631; have hnb11 := NB632_633.out; have hnc11 := NB633_632.out; obtain ⟨hcz12_0, hcz12_1, hcz12_2, hfz12_0, hfz12_1, hfz12_2⟩ := qc3 BK632) | (go_at_call 37; (with_reducible refine (marqueeref02_first.calls k a0_0 a0_1 a0_2 a1_0 a1_1 a1_2 true t634 true _ A3.out).mono ?_); rintro e w13 ⟨rfl, hb⟩; replace BK631 := qb BK631 hb; replace BK632 := qb BK632 hb; replace BK633 := qb BK633 hb; replace HB := qs HB hb; (try clear hb); (try clear hb2); (try clear hk); (try clear hi); (try clear A3); obtain ⟨hcz14_0, hcz14_1, hcz14_2, hfz14_0, hfz14_1, hfz14_2⟩ := qc3 BK633))
    repeat (go_quiet (first | ((with_reducible refine gate_dst (N := 2) rfl ?_); refine box_event ?hg (N := 2) ?hd (cs := #[.int .i64 a0_0, .int .i64 a0_1, .string a0_2]) (t := 23) ?hr ?_; (case hd => rfl); (case hg => rfl); (case hr => first | (go_simp; done) | (go_simp; rfl)); intro gb631 hg w5 hbox hb; have BK631 := Aside0.mk (hbox); have GW631 := qz HB hg; have GE631 := qz HB hg; replace HB := qs HB hb; clear hb hbox hg) | ((with_reducible refine gate_dst (N := 3) rfl ?_); refine box_event ?hg (N := 3) ?hd (cs := #[.int .i64 a1_0, .int .i64 a1_1, .string a1_2]) (t := 23) ?hr ?_; (case hd => rfl); (case hg => rfl); (case hr => first | (go_simp; done) | (go_simp; rfl)); intro gb632 hg w6 hbox hb; have BK632 := Aside0.mk (hbox); have GW632 := qz HB hg; have GE632 := qz HB hg; have NB631_632 := ql BK631 hg; have NB632_631 := qg BK631 hg; replace BK631 := qb BK631 hb; replace HB := qs HB hb; clear hb hbox hg) | ((with_reducible refine gate_dst (N := 4) rfl ?_); refine box_event ?hg (N := 4) ?hd (cs := #[.int .i64 0, .int .i64 0, .string (⟨#[]⟩ : ByteArray)]) (t := 23) ?hr ?_; (case hd => rfl); (case hg => rfl); (case hr => first | (go_simp; done) | (go_simp; rfl)); intro gb633 hg w7 hbox hb; have BK633 := Aside0.mk (hbox); have GW633 := qz HB hg; have GE633 := qz HB hg; have NB631_633 := ql BK631 hg; have NB633_631 := qg BK631 hg; have NB632_633 := ql BK632 hg; have NB633_632 := qg BK632 hg; replace BK631 := qb BK631 hb; replace BK632 := qb BK632 hb; replace HB := qs HB hb; clear hb hbox hg; have hnb8 := NB631_632.out; have hnc8 := NB632_631.out; have hnb9 := NB631_633.out; have hnc9 := NB633_631.out; obtain ⟨hcz10_0, hcz10_1, hcz10_2, hfz10_0, hfz10_1, hfz10_2⟩ := qc3 BK631; have hnb11 := NB632_633.out; have hnc11 := NB633_632.out; obtain ⟨hcz12_0, hcz12_1, hcz12_2, hfz12_0, hfz12_1, hfz12_2⟩ := qc3 BK632) | (go_at_call 37; (with_reducible refine (marqueeref02_first.calls k a0_0 a0_1 a0_2 a1_0 a1_1 a1_2 true t634 true _ A3.out).mono ?_); rintro e w13 ⟨rfl, hb⟩; replace BK631 := qb BK631 hb; replace BK632 := qb BK632 hb; replace BK633 := qb BK633 hb; replace HB := qs HB hb; (try clear hb); (try clear hb2); (try clear hk); (try clear hi); (try clear A3); obtain ⟨hcz14_0, hcz14_1, hcz14_2, hfz14_0, hfz14_1, hfz14_2⟩ := qc3 BK633)); try go_wp2_with (first | ((with_reducible refine gate_dst (N := 2) rfl ?_); refine box_event ?hg (N := 2) ?hd (cs := #[.int .i64 a0_0, .int .i64 a0_1, .string a0_2]) (t := 23) ?hr ?_; (case hd => rfl); (case hg => rfl); (case hr => first | (go_simp; done) | (go_simp; rfl)); intro gb631 hg w5 hbox hb; have BK631 := Aside0.mk (hbox); have GW631 := qz HB hg; have GE631 := qz HB hg; replace HB := qs HB hb; clear hb hbox hg) | ((with_reducible refine gate_dst (N := 3) rfl ?_); refine box_event ?hg (N := 3) ?hd (cs := #[.int .i64 a1_0, .int .i64 a1_1, .string a1_2]) (t := 23) ?hr ?_; (case hd => rfl); (case hg => rfl); (case hr => first | (go_simp; done) | (go_simp; rfl)); intro gb632 hg w6 hbox hb; have BK632 := Aside0.mk (hbox); have GW632 := qz HB hg; have GE632 := qz HB hg; have NB631_632 := ql BK631 hg; have NB632_631 := qg BK631 hg; replace BK631 := qb BK631 hb; replace HB := qs HB hb; clear hb hbox hg) | ((with_reducible refine gate_dst (N := 4) rfl ?_); refine box_event ?hg (N := 4) ?hd (cs := #[.int .i64 0, .int .i64 0, .string (⟨#[]⟩ : ByteArray)]) (t := 23) ?hr ?_; (case hd => rfl); (case hg => rfl); (case hr => first | (go_simp; done) | (go_simp; rfl)); intro gb633 hg w7 hbox hb; have BK633 := Aside0.mk (hbox); have GW633 := qz HB hg; have GE633 := qz HB hg; have NB631_633 := ql BK631 hg; have NB633_631 := qg BK631 hg; have NB632_633 := ql BK632 hg; have NB633_632 := qg BK632 hg; replace BK631 := qb BK631 hb; replace BK632 := qb BK632 hb; replace HB := qs HB hb; clear hb hbox hg; have hnb8 := NB631_632.out; have hnc8 := NB632_631.out; have hnb9 := NB631_633.out; have hnc9 := NB633_631.out; obtain ⟨hcz10_0, hcz10_1, hcz10_2, hfz10_0, hfz10_1, hfz10_2⟩ := qc3 BK631; have hnb11 := NB632_633.out; have hnc11 := NB633_632.out; obtain ⟨hcz12_0, hcz12_1, hcz12_2, hfz12_0, hfz12_1, hfz12_2⟩ := qc3 BK632) | (go_at_call 37; (with_reducible refine (marqueeref02_first.calls k a0_0 a0_1 a0_2 a1_0 a1_1 a1_2 true t634 true _ A3.out).mono ?_); rintro e w13 ⟨rfl, hb⟩; replace BK631 := qb BK631 hb; replace BK632 := qb BK632 hb; replace BK633 := qb BK633 hb; replace HB := qs HB hb; (try clear hb); (try clear hb2); (try clear hk); (try clear hi); (try clear A3); obtain ⟨hcz14_0, hcz14_1, hcz14_2, hfz14_0, hfz14_1, hfz14_2⟩ := qc3 BK633)))
    refine bodyPost_ret (results_ct rfl _ _ gb633 23 #[.int .i64 0, .int .i64 0, .string (⟨#[]⟩ : ByteArray)] (0, 0) _ rfl (by (with_reducible repeat (first | refine blk_drewN ?_ _ | refine blk_drew ?_ | refine blk_alloc ?_ _)); refine blk_put (cs := #[.int .i64 0, .int .i64 0, .string (⟨#[]⟩ : ByteArray)]) ?_ 2 _ rfl; (with_reducible repeat (first | refine blk_drewN ?_ _ | refine blk_drew ?_ | refine blk_alloc ?_ _)); refine blk_put (cs := #[.int .i64 0, .int .i64 0, .string (⟨#[]⟩ : ByteArray)]) ?_ 1 _ rfl; (with_reducible repeat (first | refine blk_drewN ?_ _ | refine blk_drew ?_ | refine blk_alloc ?_ _)); refine blk_put (cs := #[.int .i64 0, .int .i64 0, .string (⟨#[]⟩ : ByteArray)]) ?_ 0 _ rfl; (with_reducible repeat (first | refine blk_drewN ?_ _ | refine blk_drew ?_ | refine blk_alloc ?_ _)); exact BK633.out) Try.underlying23 rfl (by kernel_rfl)) rfl ?_
    exact ⟨by first | rfl | (simp [errW_none, errW_some] <;> rfl) | (simp [*, errW_none, errW_some] <;> rfl), by repeat (first | (with_reducible first | exact HB.out | apply below_alloc | apply pw_below_drewN | apply below_drew1 | refine below_set ?_ GE631.out | refine below_set ?_ GE632.out | refine below_set ?_ GE633.out) | exact HB.out)⟩
  · replace c4 := Bool.eq_false_iff.mpr c4
    subst c4
    have H1 : (if a0_0 = 3 then (marqueeref02_Mod.j0 k 2 a0_1 a1_1 true true a0_0 a0_1 a0_2 a1_0 a1_1 a1_2) else (marqueeref02_Mod.j0 k 2 a0_1 a1_1 true (a1_0 == 3) a0_0 a0_1 a0_2 a1_0 a1_1 a1_2)) = some (r1, r2, r3, r4) := by rw [if_neg (show ¬ (false = true) by decide)] at H; exact H
    clear H
    have H := H1
    clear H1
    have HC15 := Aside0.mk H
    clear H
    go_enter Try.func24, Try.ntmps24
    go_upto_region 5 with (first | ((with_reducible refine gate_dst (N := 2) rfl ?_); refine box_event ?hg (N := 2) ?hd (cs := #[.int .i64 a0_0, .int .i64 a0_1, .string a0_2]) (t := 23) ?hr ?_; (case hd => rfl); (case hg => rfl); (case hr => first | (go_simp; done) | (go_simp; rfl)); intro gb631 hg w16 hbox hb; have BK631 := Aside0.mk (hbox); have GW631 := qz HB hg; have GE631 := qz HB hg; replace HB := qs HB hb; clear hb hbox hg) | ((with_reducible refine gate_dst (N := 3) rfl ?_); refine box_event ?hg (N := 3) ?hd (cs := #[.int .i64 a1_0, .int .i64 a1_1, .string a1_2]) (t := 23) ?hr ?_; (case hd => rfl); (case hg => rfl); (case hr => first | (go_simp; done) | (go_simp; rfl)); intro gb632 hg w17 hbox hb; have BK632 := Aside0.mk (hbox); have GW632 := qz HB hg; have GE632 := qz HB hg; have NB631_632 := ql BK631 hg; have NB632_631 := qg BK631 hg; replace BK631 := qb BK631 hb; replace HB := qs HB hb; clear hb hbox hg) | ((with_reducible refine gate_dst (N := 4) rfl ?_); refine box_event ?hg (N := 4) ?hd (cs := #[.int .i64 0, .int .i64 0, .string (⟨#[]⟩ : ByteArray)]) (t := 23) ?hr ?_; (case hd => rfl); (case hg => rfl); (case hr => first | (go_simp; done) | (go_simp; rfl)); intro gb633 hg w18 hbox hb; have BK633 := Aside0.mk (hbox); have GW633 := qz HB hg; have GE633 := qz HB hg; have NB631_633 := ql BK631 hg; have NB633_631 := qg BK631 hg; have NB632_633 := ql BK632 hg; have NB633_632 := qg BK632 hg; replace BK631 := qb BK631 hb; replace BK632 := qb BK632 hb; replace HB := qs HB hb; clear hb hbox hg; have hnb19 := NB631_632.out; have hnc19 := NB632_631.out; have hnb20 := NB631_633.out; have hnc20 := NB633_631.out; obtain ⟨hcz21_0, hcz21_1, hcz21_2, hfz21_0, hfz21_1, hfz21_2⟩ := qc3 BK631; have hnb22 := NB632_633.out; have hnc22 := NB633_632.out; obtain ⟨hcz23_0, hcz23_1, hcz23_2, hfz23_0, hfz23_1, hfz23_2⟩ := qc3 BK632) | (go_at_call 37; (with_reducible refine (marqueeref02_first.calls k a0_0 a0_1 a0_2 a1_0 a1_1 a1_2 true t634 false _ A3.out).mono ?_); rintro e w24 ⟨rfl, hb⟩; replace BK631 := qb BK631 hb; replace BK632 := qb BK632 hb; replace BK633 := qb BK633 hb; replace HB := qs HB hb; (try clear hb); (try clear hb2); (try clear hk); (try clear hi); (try clear A3); obtain ⟨hcz25_0, hcz25_1, hcz25_2, hfz25_0, hfz25_1, hfz25_2⟩ := qc3 BK631; obtain ⟨hcz26_0, hcz26_1, hcz26_2, hfz26_0, hfz26_1, hfz26_2⟩ := qc3 BK632))
    repeat (go_quiet (first | ((with_reducible refine gate_dst (N := 2) rfl ?_); refine box_event ?hg (N := 2) ?hd (cs := #[.int .i64 a0_0, .int .i64 a0_1, .string a0_2]) (t := 23) ?hr ?_; (case hd => rfl); (case hg => rfl); (case hr => first | (go_simp; done) | (go_simp; rfl)); intro gb631 hg w16 hbox hb; have BK631 := Aside0.mk (hbox); have GW631 := qz HB hg; have GE631 := qz HB hg; replace HB := qs HB hb; clear hb hbox hg) | ((with_reducible refine gate_dst (N := 3) rfl ?_); refine box_event ?hg (N := 3) ?hd (cs := #[.int .i64 a1_0, .int .i64 a1_1, .string a1_2]) (t := 23) ?hr ?_; (case hd => rfl); (case hg => rfl); (case hr => first | (go_simp; done) | (go_simp; rfl)); intro gb632 hg w17 hbox hb; have BK632 := Aside0.mk (hbox); have GW632 := qz HB hg; have GE632 := qz HB hg; have NB631_632 := ql BK631 hg; have NB632_631 := qg BK631 hg; replace BK631 := qb BK631 hb; replace HB := qs HB hb; clear hb hbox hg) | ((with_reducible refine gate_dst (N := 4) rfl ?_); refine box_event ?hg (N := 4) ?hd (cs := #[.int .i64 0, .int .i64 0, .string (⟨#[]⟩ : ByteArray)]) (t := 23) ?hr ?_; (case hd => rfl); (case hg => rfl); (case hr => first | (go_simp; done) | (go_simp; rfl)); intro gb633 hg w18 hbox hb; have BK633 := Aside0.mk (hbox); have GW633 := qz HB hg; have GE633 := qz HB hg; have NB631_633 := ql BK631 hg; have NB633_631 := qg BK631 hg; have NB632_633 := ql BK632 hg; have NB633_632 := qg BK632 hg; replace BK631 := qb BK631 hb; replace BK632 := qb BK632 hb; replace HB := qs HB hb; clear hb hbox hg; have hnb19 := NB631_632.out; have hnc19 := NB632_631.out; have hnb20 := NB631_633.out; have hnc20 := NB633_631.out; obtain ⟨hcz21_0, hcz21_1, hcz21_2, hfz21_0, hfz21_1, hfz21_2⟩ := qc3 BK631; have hnb22 := NB632_633.out; have hnc22 := NB633_632.out; obtain ⟨hcz23_0, hcz23_1, hcz23_2, hfz23_0, hfz23_1, hfz23_2⟩ := qc3 BK632) | (go_at_call 37; (with_reducible refine (marqueeref02_first.calls k a0_0 a0_1 a0_2 a1_0 a1_1 a1_2 true t634 false _ A3.out).mono ?_); rintro e w24 ⟨rfl, hb⟩; replace BK631 := qb BK631 hb; replace BK632 := qb BK632 hb; replace BK633 := qb BK633 hb; replace HB := qs HB hb; (try clear hb); (try clear hb2); (try clear hk); (try clear hi); (try clear A3); obtain ⟨hcz25_0, hcz25_1, hcz25_2, hfz25_0, hfz25_1, hfz25_2⟩ := qc3 BK631; obtain ⟨hcz26_0, hcz26_1, hcz26_2, hfz26_0, hfz26_1, hfz26_2⟩ := qc3 BK632)); go_upto_region 5 with (first | ((with_reducible refine gate_dst (N := 2) rfl ?_); refine box_event ?hg (N := 2) ?hd (cs := #[.int .i64 a0_0, .int .i64 a0_1, .string a0_2]) (t := 23) ?hr ?_; (case hd => rfl); (case hg => rfl); (case hr => first | (go_simp; done) | (go_simp; rfl)); intro gb631 hg w16 hbox hb; have BK631 := Aside0.mk (hbox); have GW631 := qz HB hg; have GE631 := qz HB hg; replace HB := qs HB hb; clear hb hbox hg) | ((with_reducible refine gate_dst (N := 3) rfl ?_); refine box_event ?hg (N := 3) ?hd (cs := #[.int .i64 a1_0, .int .i64 a1_1, .string a1_2]) (t := 23) ?hr ?_; (case hd => rfl); (case hg => rfl); (case hr => first | (go_simp; done) | (go_simp; rfl)); intro gb632 hg w17 hbox hb; have BK632 := Aside0.mk (hbox); have GW632 := qz HB hg; have GE632 := qz HB hg; have NB631_632 := ql BK631 hg; have NB632_631 := qg BK631 hg; replace BK631 := qb BK631 hb; replace HB := qs HB hb; clear hb hbox hg) | ((with_reducible refine gate_dst (N := 4) rfl ?_); refine box_event ?hg (N := 4) ?hd (cs := #[.int .i64 0, .int .i64 0, .string (⟨#[]⟩ : ByteArray)]) (t := 23) ?hr ?_; (case hd => rfl); (case hg => rfl); (case hr => first | (go_simp; done) | (go_simp; rfl)); intro gb633 hg w18 hbox hb; have BK633 := Aside0.mk (hbox); have GW633 := qz HB hg; have GE633 := qz HB hg; have NB631_633 := ql BK631 hg; have NB633_631 := qg BK631 hg; have NB632_633 := ql BK632 hg; have NB633_632 := qg BK632 hg; replace BK631 := qb BK631 hb; replace BK632 := qb BK632 hb; replace HB := qs HB hb; clear hb hbox hg; have hnb19 := NB631_632.out; have hnc19 := NB632_631.out; have hnb20 := NB631_633.out; have hnc20 := NB633_631.out; obtain ⟨hcz21_0, hcz21_1, hcz21_2, hfz21_0, hfz21_1, hfz21_2⟩ := qc3 BK631; have hnb22 := NB632_633.out; have hnc22 := NB633_632.out; obtain ⟨hcz23_0, hcz23_1, hcz23_2, hfz23_0, hfz23_1, hfz23_2⟩ := qc3 BK632) | (go_at_call 37; (with_reducible refine (marqueeref02_first.calls k a0_0 a0_1 a0_2 a1_0 a1_1 a1_2 true t634 false _ A3.out).mono ?_); rintro e w24 ⟨rfl, hb⟩; replace BK631 := qb BK631 hb; replace BK632 := qb BK632 hb; replace BK633 := qb BK633 hb; replace HB := qs HB hb; (try clear hb); (try clear hb2); (try clear hk); (try clear hi); (try clear A3); obtain ⟨hcz25_0, hcz25_1, hcz25_2, hfz25_0, hfz25_1, hfz25_2⟩ := qc3 BK631; obtain ⟨hcz26_0, hcz26_1, hcz26_2, hfz26_0, hfz26_1, hfz26_2⟩ := qc3 BK632)))
    (try simp only [Act.put, List.setIfInBounds_toArray, List.set_cons_zero, List.set_cons_succ])
    go_cut [33] (fun v33 wc => ∃ (kq : Nat) (x33_14 : Bool), v33 = .bool x33_14 ∧ Aside0 (marqueeref02_Mod.j0 kq 2 a0_1 a1_1 true x33_14 a0_0 a0_1 a0_2 a1_0 a1_1 a1_2 = some (r1, r2, r3, r4)) ∧ Aside0 (kq ≤ k) ∧ Aside0 (wc.heap[gb631]? = some (.cells #[.int .i64 a0_0, .int .i64 a0_1, .string a0_2] 23 (0, 0))) ∧ Aside0 (wc.heap[gb632]? = some (.cells #[.int .i64 a1_0, .int .i64 a1_1, .string a1_2] 23 (0, 0))) ∧ Aside0 (wc.heap[gb633]? = some (.cells #[.int .i64 0, .int .i64 0, .string (⟨#[]⟩ : ByteArray)] 23 (0, 0))) ∧ Aside0 (Below w.heap.size w wc))
    case first =>
      have H := HC15.out
      clear HC15
      by_cases c27 : a0_0 = 3
      · rw [if_pos c27] at H
        have c27b0 : (a0_0 == 3) = true := beq_iff_eq.mpr c27
        have c27b1 : (a0_0 != 3) = false := bne_eq_false_iff_eq.mpr c27
        clear c27
        (first | rw [c27b0] | (simp only [i64_w, i32_w]; rw [c27b0]) | skip)
        have H' := Aside0.mk H
        clear H
        have hnb28 := NB631_632.out
        have hnc28 := NB632_631.out
        have hnb29 := NB631_633.out
        have hnc29 := NB633_631.out
        obtain ⟨hcz30_0, hcz30_1, hcz30_2, hfz30_0, hfz30_1, hfz30_2⟩ := qc3 BK631
        go_wp2
        repeat (go_quiet (fail); try go_wp2)
        go_meet
        case rel => exact ⟨_, (true), (by first | rfl | (simp; done) | (simp [*]; done)), H', ⟨by first | omega | exact Nat.le_refl _⟩, ⟨by (with_reducible repeat (first | refine blk_drewN ?_ _ | refine blk_drew ?_ | refine blk_alloc ?_ _)); exact BK631.out⟩, ⟨by (with_reducible repeat (first | refine blk_drewN ?_ _ | refine blk_drew ?_ | refine blk_alloc ?_ _)); exact BK632.out⟩, ⟨by (with_reducible repeat (first | refine blk_drewN ?_ _ | refine blk_drew ?_ | refine blk_alloc ?_ _)); exact BK633.out⟩, ⟨by repeat (first | (with_reducible first | exact HB.out | apply below_alloc | apply pw_below_drewN | apply below_drew1 | refine below_set ?_ GE631.out | refine below_set ?_ GE632.out | refine below_set ?_ GE633.out) | exact HB.out)⟩⟩
      · rw [if_neg c27] at H
        have c27b0 : (a0_0 == 3) = false := beq_eq_false_iff_ne.mpr c27
        have c27b1 : (a0_0 != 3) = true := bne_iff_ne.mpr c27
        (first | rw [c27b0] | (simp only [i64_w, i32_w]; rw [c27b0]) | skip)
        have H' := Aside0.mk H
        clear H
        have hnb31 := NB631_632.out
        have hnc31 := NB632_631.out
        have hnb32 := NB631_633.out
        have hnc32 := NB633_631.out
        obtain ⟨hcz33_0, hcz33_1, hcz33_2, hfz33_0, hfz33_1, hfz33_2⟩ := qc3 BK631
        have hnb34 := NB632_633.out
        have hnc34 := NB633_632.out
        obtain ⟨hcz35_0, hcz35_1, hcz35_2, hfz35_0, hfz35_1, hfz35_2⟩ := qc3 BK632
        go_wp2
        repeat (go_quiet (fail); try go_wp2)
        go_meet
        case rel => exact ⟨_, ((a1_0 == 3)), (by first | rfl | (simp; done) | (simp [*]; done)), H', ⟨by first | omega | exact Nat.le_refl _⟩, ⟨by (with_reducible repeat (first | refine blk_drewN ?_ _ | refine blk_drew ?_ | refine blk_alloc ?_ _)); exact BK631.out⟩, ⟨by (with_reducible repeat (first | refine blk_drewN ?_ _ | refine blk_drew ?_ | refine blk_alloc ?_ _)); exact BK632.out⟩, ⟨by (with_reducible repeat (first | refine blk_drewN ?_ _ | refine blk_drew ?_ | refine blk_alloc ?_ _)); exact BK633.out⟩, ⟨by repeat (first | (with_reducible first | exact HB.out | apply below_alloc | apply pw_below_drewN | apply below_drew1 | refine below_set ?_ GE631.out | refine below_set ?_ GE632.out | refine below_set ?_ GE633.out) | exact HB.out)⟩⟩
    case rest =>
      clear HC15
      try clear c1
      try clear c2
      try clear p2
      try clear c3
      try clear c4
      try clear c8
      try clear c9
      try clear c11
      try clear c19
      try clear c20
      try clear c22
      try clear c24
      try clear c27
      try clear c27b0
      try clear c27b1
      try clear c28
      try clear c29
      try clear c31
      try clear c32
      try clear c34
      try clear hcz10_0
      try clear hcz10_1
      try clear hcz10_2
      try clear hcz12_0
      try clear hcz12_1
      try clear hcz12_2
      try clear hcz14_0
      try clear hcz14_1
      try clear hcz14_2
      try clear hcz21_0
      try clear hcz21_1
      try clear hcz21_2
      try clear hcz23_0
      try clear hcz23_1
      try clear hcz23_2
      try clear hcz25_0
      try clear hcz25_1
      try clear hcz25_2
      try clear hcz26_0
      try clear hcz26_1
      try clear hcz26_2
      try clear hcz30_0
      try clear hcz30_1
      try clear hcz30_2
      try clear hcz33_0
      try clear hcz33_1
      try clear hcz33_2
      try clear hcz35_0
      try clear hcz35_1
      try clear hcz35_2
      try clear hfz10_0
      try clear hfz10_1
      try clear hfz10_2
      try clear hfz12_0
      try clear hfz12_1
      try clear hfz12_2
      try clear hfz14_0
      try clear hfz14_1
      try clear hfz14_2
      try clear hfz21_0
      try clear hfz21_1
      try clear hfz21_2
      try clear hfz23_0
      try clear hfz23_1
      try clear hfz23_2
      try clear hfz25_0
      try clear hfz25_1
      try clear hfz25_2
      try clear hfz26_0
      try clear hfz26_1
      try clear hfz26_2
      try clear hfz30_0
      try clear hfz30_1
      try clear hfz30_2
      try clear hfz33_0
      try clear hfz33_1
      try clear hfz33_2
      try clear hfz35_0
      try clear hfz35_1
      try clear hfz35_2
      obtain ⟨kq, x33_14, rfl, HA, HJ14, BK631, BK632, BK633, HB⟩ := hcut
      cases kq with
      | zero => exact absurd HA.out (by simp [marqueeref02_Mod.j0])
      | succ kj14 =>
        have H := HA.out
        clear HA
        simp only [marqueeref02_Mod.j0] at H
        have HC36 := Aside0.mk H
        clear H
        go_upto_if 33 with (fail)
        repeat (go_quiet (fail); go_upto_if 33 with (fail))
        go_cut [8, 9, 10, 11] (fun v8 v9 v10 v11 wc => ∃ (kq : Nat) (x8_35 : Int) (x9_35 : Int) (x10_35 : Int) (x11_35 : Bool), v8 = .int .i64 x8_35 ∧ v9 = .int .i64 x9_35 ∧ v10 = .int .i64 x10_35 ∧ v11 = .bool x11_35 ∧ Aside0 (marqueeref02_Mod.j1 kq x8_35 x9_35 x10_35 x11_35 = some (r1, r2, r3, r4)) ∧ Aside0 (kq ≤ kj14) ∧ Aside0 (wc.heap[gb631]? = some (.cells #[.int .i64 a0_0, .int .i64 a0_1, .string a0_2] 23 (0, 0))) ∧ Aside0 (wc.heap[gb632]? = some (.cells #[.int .i64 a1_0, .int .i64 a1_1, .string a1_2] 23 (0, 0))) ∧ Aside0 (wc.heap[gb633]? = some (.cells #[.int .i64 0, .int .i64 0, .string (⟨#[]⟩ : ByteArray)] 23 (0, 0))) ∧ Aside0 (Below w.heap.size w wc))
        case first =>
          have H := HC36.out
          clear HC36
          by_cases c37 : x33_14 = true
          · subst c37
            have H1 : ((marqueeref02_decs.f a0_0 a0_1 a0_2 a1_0 a1_1 a1_2).bind fun bt636 => (marqueeref02_Mod.j1 kj14 3 bt636.1 bt636.2.1 bt636.2.2)) = some (r1, r2, r3, r4) := by rw [if_pos rfl] at H; exact H
            clear H
            have H := H1
            clear H1
            replace H := Option.bind_eq_some_iff.mp H
            obtain ⟨⟨t636, t637, t638⟩, A380, H⟩ := H
            replace H : (marqueeref02_Mod.j1 kj14 3 t636 t637 t638) = some (r1, r2, r3, r4) := H
            have A38 := Aside0.mk A380
            clear A380
            have H' := Aside0.mk H
            clear H
            have hnb39 := NB631_632.out
            have hnc39 := NB632_631.out
            have hnb40 := NB631_633.out
            have hnc40 := NB633_631.out
            obtain ⟨hcz41_0, hcz41_1, hcz41_2, hfz41_0, hfz41_1, hfz41_2⟩ := qc3 BK631
            have hnb42 := NB632_633.out
            have hnc42 := NB633_632.out
            obtain ⟨hcz43_0, hcz43_1, hcz43_2, hfz43_0, hfz43_1, hfz43_2⟩ := qc3 BK632
            go_wp2_with (first | (go_at_call 40; (with_reducible refine (marqueeref02_decs.calls a0_0 a0_1 a0_2 a1_0 a1_1 a1_2 t636 t637 t638 _ A38.out).mono ?_); rintro e w44 ⟨rfl, hb⟩; replace BK631 := qb BK631 hb; replace BK632 := qb BK632 hb; replace BK633 := qb BK633 hb; replace HB := qs HB hb; (try clear hb); (try clear hb2); (try clear hk); (try clear hi); (try clear A38)))
            repeat (go_quiet (first | (go_at_call 40; (with_reducible refine (marqueeref02_decs.calls a0_0 a0_1 a0_2 a1_0 a1_1 a1_2 t636 t637 t638 _ A38.out).mono ?_); rintro e w44 ⟨rfl, hb⟩; replace BK631 := qb BK631 hb; replace BK632 := qb BK632 hb; replace BK633 := qb BK633 hb; replace HB := qs HB hb; (try clear hb); (try clear hb2); (try clear hk); (try clear hi); (try clear A38))); try go_wp2_with (first | (go_at_call 40; (with_reducible refine (marqueeref02_decs.calls a0_0 a0_1 a0_2 a1_0 a1_1 a1_2 t636 t637 t638 _ A38.out).mono ?_); rintro e w44 ⟨rfl, hb⟩; replace BK631 := qb BK631 hb; replace BK632 := qb BK632 hb; replace BK633 := qb BK633 hb; replace HB := qs HB hb; (try clear hb); (try clear hb2); (try clear hk); (try clear hi); (try clear A38))))
            go_meet
            case rel => exact ⟨_, (3), (t636), (t637), (t638), (by first | rfl | (simp; done) | (simp [*]; done)), (by first | rfl | (simp; done) | (simp [*]; done)), (by first | rfl | (simp; done) | (simp [*]; done)), (by first | rfl | (simp; done) | (simp [*]; done)), H', ⟨by have := HJ14.out; first | omega | exact Nat.le_refl _⟩, ⟨by (with_reducible repeat (first | refine blk_drewN ?_ _ | refine blk_drew ?_ | refine blk_alloc ?_ _)); exact BK631.out⟩, ⟨by (with_reducible repeat (first | refine blk_drewN ?_ _ | refine blk_drew ?_ | refine blk_alloc ?_ _)); exact BK632.out⟩, ⟨by (with_reducible repeat (first | refine blk_drewN ?_ _ | refine blk_drew ?_ | refine blk_alloc ?_ _)); exact BK633.out⟩, ⟨by repeat (first | (with_reducible first | exact HB.out | apply below_alloc | apply pw_below_drewN | apply below_drew1 | refine below_set ?_ GE631.out | refine below_set ?_ GE632.out | refine below_set ?_ GE633.out) | exact HB.out)⟩⟩
          · replace c37 := Bool.eq_false_iff.mpr c37
            subst c37
            have H1 : (marqueeref02_Mod.j1 kj14 2 a0_1 a1_1 true) = some (r1, r2, r3, r4) := by rw [if_neg (show ¬ (false = true) by decide)] at H; exact H
            clear H
            have H := H1
            clear H1
            have H' := Aside0.mk H
            clear H
            go_wp2
            repeat (go_quiet (fail); try go_wp2)
            go_meet
            case rel => exact ⟨_, (2), (a0_1), (a1_1), (true), (by first | rfl | (simp; done) | (simp [*]; done)), (by first | rfl | (simp; done) | (simp [*]; done)), (by first | rfl | (simp; done) | (simp [*]; done)), (by first | rfl | (simp; done) | (simp [*]; done)), H', ⟨by have := HJ14.out; first | omega | exact Nat.le_refl _⟩, ⟨by (with_reducible repeat (first | refine blk_drewN ?_ _ | refine blk_drew ?_ | refine blk_alloc ?_ _)); exact BK631.out⟩, ⟨by (with_reducible repeat (first | refine blk_drewN ?_ _ | refine blk_drew ?_ | refine blk_alloc ?_ _)); exact BK632.out⟩, ⟨by (with_reducible repeat (first | refine blk_drewN ?_ _ | refine blk_drew ?_ | refine blk_alloc ?_ _)); exact BK633.out⟩, ⟨by repeat (first | (with_reducible first | exact HB.out | apply below_alloc | apply pw_below_drewN | apply below_drew1 | refine below_set ?_ GE631.out | refine below_set ?_ GE632.out | refine below_set ?_ GE633.out) | exact HB.out)⟩⟩
        case rest =>
          clear HC36
          try clear c1
          try clear c2
          try clear p2
          try clear c3
          try clear c4
          try clear c8
          try clear c9
          try clear c11
          try clear c19
          try clear c20
          try clear c22
          try clear c24
          try clear c27
          try clear c27b0
          try clear c27b1
          try clear c28
          try clear c29
          try clear c31
          try clear c32
          try clear c34
          try clear c37
          try clear c39
          try clear c40
          try clear c42
          try clear hcz10_0
          try clear hcz10_1
          try clear hcz10_2
          try clear hcz12_0
          try clear hcz12_1
          try clear hcz12_2
          try clear hcz14_0
          try clear hcz14_1
          try clear hcz14_2
          try clear hcz21_0
          try clear hcz21_1
          try clear hcz21_2
          try clear hcz23_0
          try clear hcz23_1
          try clear hcz23_2
          try clear hcz25_0
          try clear hcz25_1
          try clear hcz25_2
          try clear hcz26_0
          try clear hcz26_1
          try clear hcz26_2
          try clear hcz30_0
          try clear hcz30_1
          try clear hcz30_2
          try clear hcz33_0
          try clear hcz33_1
          try clear hcz33_2
          try clear hcz35_0
          try clear hcz35_1
          try clear hcz35_2
          try clear hcz41_0
          try clear hcz41_1
          try clear hcz41_2
          try clear hcz43_0
          try clear hcz43_1
          try clear hcz43_2
          try clear hfz10_0
          try clear hfz10_1
          try clear hfz10_2
          try clear hfz12_0
          try clear hfz12_1
          try clear hfz12_2
          try clear hfz14_0
          try clear hfz14_1
          try clear hfz14_2
          try clear hfz21_0
          try clear hfz21_1
          try clear hfz21_2
          try clear hfz23_0
          try clear hfz23_1
          try clear hfz23_2
          try clear hfz25_0
          try clear hfz25_1
          try clear hfz25_2
          try clear hfz26_0
          try clear hfz26_1
          try clear hfz26_2
          try clear hfz30_0
          try clear hfz30_1
          try clear hfz30_2
          try clear hfz33_0
          try clear hfz33_1
          try clear hfz33_2
          try clear hfz35_0
          try clear hfz35_1
          try clear hfz35_2
          try clear hfz41_0
          try clear hfz41_1
          try clear hfz41_2
          try clear hfz43_0
          try clear hfz43_1
          try clear hfz43_2
          try clear p2
          obtain ⟨kq, x8_35, x9_35, x10_35, x11_35, rfl, rfl, rfl, rfl, HA, HJ35, BK631, BK632, BK633, HB⟩ := hcut
          cases kq with
          | zero => exact absurd HA.out (by simp [marqueeref02_Mod.j1])
          | succ kj35 =>
            have H := HA.out
            clear HA
            simp only [marqueeref02_Mod.j1] at H
            by_cases c45 : x11_35 = true
            · subst c45
              have H1 : (if x10_35 = (-1) then ((marqueeref02_of.f x8_35 0 true).bind fun bt639 => (some (bt639.1, bt639.2.1, bt639.2.2.1, bt639.2.2.2))) else (if x10_35 = 0 then (none) else ((marqueeref02_of.f x8_35 (Int.tmod x9_35 x10_35) true).bind fun bt643 => (some (bt643.1, bt643.2.1, bt643.2.2.1, bt643.2.2.2))))) = some (r1, r2, r3, r4) := by rw [if_pos rfl] at H; exact H
              clear H
              have H := H1
              clear H1
              by_cases c46 : x10_35 = (-1)
              · rw [if_pos c46] at H
                have c46b0 : (x10_35 == (-1)) = true := beq_iff_eq.mpr c46
                have c46b1 : (x10_35 != (-1)) = false := bne_eq_false_iff_eq.mpr c46
                clear c46
                replace H := Option.bind_eq_some_iff.mp H
                obtain ⟨⟨t639, t640, t641, t642⟩, A470, H⟩ := H
                replace H : (some (t639, t640, t641, t642)) = some (r1, r2, r3, r4) := H
                have A47 := Aside0.mk A470
                clear A470
                simp only [Option.some.injEq, Prod.mk.injEq] at H
                obtain ⟨rfl, rfl, rfl, rfl⟩ := H
                go_wp2_with (first | (go_at_call 38; (with_reducible refine (marqueeref02_of.calls x8_35 0 true t639 t640 t641 t642 _ A47.out).mono ?_); rintro e w48 ⟨rfl, hb⟩; replace BK631 := qb BK631 hb; replace BK632 := qb BK632 hb; replace BK633 := qb BK633 hb; replace HB := qs HB hb; (try clear hb); (try clear hb2); (try clear hk); (try clear hi); (try clear A47); have hnb49 := NB633_631.out; have hnc49 := NB631_633.out; have hnb50 := NB633_632.out; have hnc50 := NB632_633.out; obtain ⟨hcz51_0, hcz51_1, hcz51_2, hfz51_0, hfz51_1, hfz51_2⟩ := qc3 BK633))
                repeat (go_quiet (first | (go_at_call 38; (with_reducible refine (marqueeref02_of.calls x8_35 0 true t639 t640 t641 t642 _ A47.out).mono ?_); rintro e w48 ⟨rfl, hb⟩; replace BK631 := qb BK631 hb; replace BK632 := qb BK632 hb; replace BK633 := qb BK633 hb; replace HB := qs HB hb; (try clear hb); (try clear hb2); (try clear hk); (try clear hi); (try clear A47); have hnb49 := NB633_631.out; have hnc49 := NB631_633.out; have hnb50 := NB633_632.out; have hnc50 := NB632_633.out; obtain ⟨hcz51_0, hcz51_1, hcz51_2, hfz51_0, hfz51_1, hfz51_2⟩ := qc3 BK633)); try go_wp2_with (first | (go_at_call 38; (with_reducible refine (marqueeref02_of.calls x8_35 0 true t639 t640 t641 t642 _ A47.out).mono ?_); rintro e w48 ⟨rfl, hb⟩; replace BK631 := qb BK631 hb; replace BK632 := qb BK632 hb; replace BK633 := qb BK633 hb; replace HB := qs HB hb; (try clear hb); (try clear hb2); (try clear hk); (try clear hi); (try clear A47); have hnb49 := NB633_631.out; have hnc49 := NB631_633.out; have hnb50 := NB633_632.out; have hnc50 := NB632_633.out; obtain ⟨hcz51_0, hcz51_1, hcz51_2, hfz51_0, hfz51_1, hfz51_2⟩ := qc3 BK633)))
                refine bodyPost_ret (results_ct rfl _ _ gb633 23 #[.int .i64 t639, .int .i64 t640, .string t641] (0, 0) _ rfl (by (with_reducible repeat (first | refine blk_drewN ?_ _ | refine blk_drew ?_ | refine blk_alloc ?_ _)); refine blk_put (cs := #[.int .i64 t639, .int .i64 t640, .string (⟨#[]⟩ : ByteArray)]) ?_ 2 _ rfl; (with_reducible repeat (first | refine blk_drewN ?_ _ | refine blk_drew ?_ | refine blk_alloc ?_ _)); refine blk_put (cs := #[.int .i64 t639, .int .i64 0, .string (⟨#[]⟩ : ByteArray)]) ?_ 1 _ rfl; (with_reducible repeat (first | refine blk_drewN ?_ _ | refine blk_drew ?_ | refine blk_alloc ?_ _)); refine blk_put (cs := #[.int .i64 0, .int .i64 0, .string (⟨#[]⟩ : ByteArray)]) ?_ 0 _ rfl; (with_reducible repeat (first | refine blk_drewN ?_ _ | refine blk_drew ?_ | refine blk_alloc ?_ _)); exact BK633.out) Try.underlying23 rfl (by kernel_rfl)) rfl ?_
                exact ⟨by first | rfl | (simp [errW_none, errW_some] <;> rfl) | (simp [*, errW_none, errW_some] <;> rfl), by repeat (first | (with_reducible first | exact HB.out | apply below_alloc | apply pw_below_drewN | apply below_drew1 | refine below_set ?_ GE631.out | refine below_set ?_ GE632.out | refine below_set ?_ GE633.out) | exact HB.out)⟩
              · rw [if_neg c46] at H
                have c46b0 : (x10_35 == (-1)) = false := beq_eq_false_iff_ne.mpr c46
                have c46b1 : (x10_35 != (-1)) = true := bne_iff_ne.mpr c46
                by_cases c52 : x10_35 = 0
                · rw [if_pos c52] at H
                  exact absurd H (by simp)
                · rw [if_neg c52] at H
                  have c52b0 : (x10_35 == 0) = false := beq_eq_false_iff_ne.mpr c52
                  have c52b1 : (x10_35 != 0) = true := bne_iff_ne.mpr c52
                  replace H := Option.bind_eq_some_iff.mp H
                  obtain ⟨⟨t643, t644, t645, t646⟩, A530, H⟩ := H
                  replace H : (some (t643, t644, t645, t646)) = some (r1, r2, r3, r4) := H
                  have A53 := Aside0.mk A530
                  clear A530
                  simp only [Option.some.injEq, Prod.mk.injEq] at H
                  obtain ⟨rfl, rfl, rfl, rfl⟩ := H
                  go_wp2_with (first | (go_at_call 38; (with_reducible refine (marqueeref02_of.calls x8_35 (Int.tmod x9_35 x10_35) true t643 t644 t645 t646 _ A53.out).mono ?_); rintro e w54 ⟨rfl, hb⟩; replace BK631 := qb BK631 hb; replace BK632 := qb BK632 hb; replace BK633 := qb BK633 hb; replace HB := qs HB hb; (try clear hb); (try clear hb2); (try clear hk); (try clear hi); (try clear A53); have hnb55 := NB633_631.out; have hnc55 := NB631_633.out; have hnb56 := NB633_632.out; have hnc56 := NB632_633.out; obtain ⟨hcz57_0, hcz57_1, hcz57_2, hfz57_0, hfz57_1, hfz57_2⟩ := qc3 BK633))
                  repeat (go_quiet (first | (go_at_call 38; (with_reducible refine (marqueeref02_of.calls x8_35 (Int.tmod x9_35 x10_35) true t643 t644 t645 t646 _ A53.out).mono ?_); rintro e w54 ⟨rfl, hb⟩; replace BK631 := qb BK631 hb; replace BK632 := qb BK632 hb; replace BK633 := qb BK633 hb; replace HB := qs HB hb; (try clear hb); (try clear hb2); (try clear hk); (try clear hi); (try clear A53); have hnb55 := NB633_631.out; have hnc55 := NB631_633.out; have hnb56 := NB633_632.out; have hnc56 := NB632_633.out; obtain ⟨hcz57_0, hcz57_1, hcz57_2, hfz57_0, hfz57_1, hfz57_2⟩ := qc3 BK633)); try go_wp2_with (first | (go_at_call 38; (with_reducible refine (marqueeref02_of.calls x8_35 (Int.tmod x9_35 x10_35) true t643 t644 t645 t646 _ A53.out).mono ?_); rintro e w54 ⟨rfl, hb⟩; replace BK631 := qb BK631 hb; replace BK632 := qb BK632 hb; replace BK633 := qb BK633 hb; replace HB := qs HB hb; (try clear hb); (try clear hb2); (try clear hk); (try clear hi); (try clear A53); have hnb55 := NB633_631.out; have hnc55 := NB631_633.out; have hnb56 := NB633_632.out; have hnc56 := NB632_633.out; obtain ⟨hcz57_0, hcz57_1, hcz57_2, hfz57_0, hfz57_1, hfz57_2⟩ := qc3 BK633)))
                  refine bodyPost_ret (results_ct rfl _ _ gb633 23 #[.int .i64 t643, .int .i64 t644, .string t645] (0, 0) _ rfl (by (with_reducible repeat (first | refine blk_drewN ?_ _ | refine blk_drew ?_ | refine blk_alloc ?_ _)); refine blk_put (cs := #[.int .i64 t643, .int .i64 t644, .string (⟨#[]⟩ : ByteArray)]) ?_ 2 _ rfl; (with_reducible repeat (first | refine blk_drewN ?_ _ | refine blk_drew ?_ | refine blk_alloc ?_ _)); refine blk_put (cs := #[.int .i64 t643, .int .i64 0, .string (⟨#[]⟩ : ByteArray)]) ?_ 1 _ rfl; (with_reducible repeat (first | refine blk_drewN ?_ _ | refine blk_drew ?_ | refine blk_alloc ?_ _)); refine blk_put (cs := #[.int .i64 0, .int .i64 0, .string (⟨#[]⟩ : ByteArray)]) ?_ 0 _ rfl; (with_reducible repeat (first | refine blk_drewN ?_ _ | refine blk_drew ?_ | refine blk_alloc ?_ _)); exact BK633.out) Try.underlying23 rfl (by kernel_rfl)) rfl ?_
                  exact ⟨by first | rfl | (simp [errW_none, errW_some] <;> rfl) | (simp [*, errW_none, errW_some] <;> rfl), by repeat (first | (with_reducible first | exact HB.out | apply below_alloc | apply pw_below_drewN | apply below_drew1 | refine below_set ?_ GE631.out | refine below_set ?_ GE632.out | refine below_set ?_ GE633.out) | exact HB.out)⟩
            · replace c45 := Bool.eq_false_iff.mpr c45
              subst c45
              have H1 : (some (0, 0, (⟨#[]⟩ : ByteArray), 20)) = some (r1, r2, r3, r4) := by rw [if_neg (show ¬ (false = true) by decide)] at H; exact H
              clear H
              have H := H1
              clear H1
              simp only [Option.some.injEq, Prod.mk.injEq] at H
              obtain ⟨rfl, rfl, rfl, rfl⟩ := H
              have hnb58 := NB633_631.out
              have hnc58 := NB631_633.out
              have hnb59 := NB633_632.out
              have hnc59 := NB632_633.out
              obtain ⟨hcz60_0, hcz60_1, hcz60_2, hfz60_0, hfz60_1, hfz60_2⟩ := qc3 BK633
              go_wp2
              repeat (go_quiet (fail); try go_wp2)
              refine bodyPost_ret (results_ct rfl _ _ gb633 23 #[.int .i64 0, .int .i64 0, .string (⟨#[]⟩ : ByteArray)] (0, 0) _ rfl (by (with_reducible repeat (first | refine blk_drewN ?_ _ | refine blk_drew ?_ | refine blk_alloc ?_ _)); refine blk_put (cs := #[.int .i64 0, .int .i64 0, .string (⟨#[]⟩ : ByteArray)]) ?_ 2 _ rfl; (with_reducible repeat (first | refine blk_drewN ?_ _ | refine blk_drew ?_ | refine blk_alloc ?_ _)); refine blk_put (cs := #[.int .i64 0, .int .i64 0, .string (⟨#[]⟩ : ByteArray)]) ?_ 1 _ rfl; (with_reducible repeat (first | refine blk_drewN ?_ _ | refine blk_drew ?_ | refine blk_alloc ?_ _)); refine blk_put (cs := #[.int .i64 0, .int .i64 0, .string (⟨#[]⟩ : ByteArray)]) ?_ 0 _ rfl; (with_reducible repeat (first | refine blk_drewN ?_ _ | refine blk_drew ?_ | refine blk_alloc ?_ _)); exact BK633.out) Try.underlying23 rfl (by kernel_rfl)) rfl ?_
              exact ⟨by first | rfl | (simp [errW_none, errW_some] <;> rfl) | (simp [*, errW_none, errW_some] <;> rfl), by repeat (first | (with_reducible first | exact HB.out | apply below_alloc | apply pw_below_drewN | apply below_drew1 | refine below_set ?_ GE631.out | refine below_set ?_ GE632.out | refine below_set ?_ GE633.out) | exact HB.out)⟩

/-! ### marqueeref02_Dec: function 25 -/
def marqueeref02_Dec.f (k : Nat) (a0_0 : Int) (a0_1 : Int) (a0_2 : ByteArray) : Option (Int × Int × ByteArray × Int) := (marqueeref02_first.f k a0_0 a0_1 a0_2 a0_0 a0_1 a0_2 false).bind fun bt649 => (if bt649.2 = true then (some (0, 0, (⟨#[]⟩ : ByteArray), bt649.1)) else ((marqueeref02_dec.f a0_0 a0_1 a0_2).bind fun bt651 => ((marqueeref02_of.f 3 bt651.1 bt651.2).bind fun bt653 => (some (bt653.1, bt653.2.1, bt653.2.2.1, bt653.2.2.2)))))
theorem marqueeref02_Dec.mono : ∀ a0 a1 a2 k, LeO (marqueeref02_Dec.f k a0 a1 a2) (marqueeref02_Dec.f (k + 1) a0 a1 a2) := by
  intro a0 a1 a2 k
  unfold marqueeref02_Dec.f
  repeat' first
      | (with_reducible exact marqueeref02_first.mono _ _ _ _ _ _ _ _)
      | (with_reducible exact LeO.refl _)
      | (with_reducible exact LeO.none _)
      | (with_reducible refine LeO.ite ?_ ?_)
      | (with_reducible refine LeO.bind ?_ (fun _ => ?_))
      | exact marqueeref02_first.mono _ _ _ _ _ _ _ _
      | exact LeO.none _
      | refine LeO.ite ?_ ?_
      | refine LeO.bind ?_ (fun _ => ?_)
set_option maxHeartbeats 8000000 in
set_option maxRecDepth 100000 in
theorem marqueeref02_Dec.calls (k : Nat) (a0_0 : Int) (a0_1 : Int) (a0_2 : ByteArray) (r1 : Int) (r2 : Int) (r3 : ByteArray) (r4 : Int) (w : World) (h : marqueeref02_Dec.f k a0_0 a0_1 a0_2 = some (r1, r2, r3, r4)) :
    Calls Try.prog 25 #[.agg #[.int .i64 a0_0, .int .i64 a0_1, .string a0_2]] w fun e w' => e = .returned (.tuple #[.agg #[.int .i64 r1, .int .i64 r2, .string r3], .int .i64 r4]) ∧ Below w.heap.size w w' := by
  have hu23 := Try.underlying23
  have HB := Aside0.mk (Below.refl w.heap.size w)
  have H : ((marqueeref02_first.f k a0_0 a0_1 a0_2 a0_0 a0_1 a0_2 false).bind fun bt649 => (if bt649.2 = true then (some (0, 0, (⟨#[]⟩ : ByteArray), bt649.1)) else ((marqueeref02_dec.f a0_0 a0_1 a0_2).bind fun bt651 => ((marqueeref02_of.f 3 bt651.1 bt651.2).bind fun bt653 => (some (bt653.1, bt653.2.1, bt653.2.2.1, bt653.2.2.2)))))) = some (r1, r2, r3, r4) := h
  clear h
  replace H := Option.bind_eq_some_iff.mp H
  obtain ⟨⟨t649, t650⟩, A20, H⟩ := H
  replace H : (if t650 = true then (some (0, 0, (⟨#[]⟩ : ByteArray), t649)) else ((marqueeref02_dec.f a0_0 a0_1 a0_2).bind fun bt651 => ((marqueeref02_of.f 3 bt651.1 bt651.2).bind fun bt653 => (some (bt653.1, bt653.2.1, bt653.2.2.1, bt653.2.2.2))))) = some (r1, r2, r3, r4) := H
  have A2 := Aside0.mk A20
  clear A20
  by_cases c3 : t650 = true
  · subst c3
    have H1 : (some (0, 0, (⟨#[]⟩ : ByteArray), t649)) = some (r1, r2, r3, r4) := by rw [if_pos rfl] at H; exact H
    clear H
    have H := H1
    clear H1
    simp only [Option.some.injEq, Prod.mk.injEq] at H
    obtain ⟨rfl, rfl, rfl, rfl⟩ := H
    go_enter Try.func25, Try.ntmps25
    go_wp2_with (first | ((with_reducible refine gate_dst (N := 1) rfl ?_); refine box_event ?hg (N := 1) ?hd (cs := #[.int .i64 a0_0, .int .i64 a0_1, .string a0_2]) (t := 23) ?hr ?_; (case hd => rfl); (case hg => rfl); (case hr => first | (go_simp; done) | (go_simp; rfl)); intro gb647 hg w4 hbox hb; have BK647 := Aside0.mk (hbox); have GW647 := qz HB hg; have GE647 := qz HB hg; replace HB := qs HB hb; clear hb hbox hg) | ((with_reducible refine gate_dst (N := 2) rfl ?_); refine box_event ?hg (N := 2) ?hd (cs := #[.int .i64 0, .int .i64 0, .string (⟨#[]⟩ : ByteArray)]) (t := 23) ?hr ?_; (case hd => rfl); (case hg => rfl); (case hr => first | (go_simp; done) | (go_simp; rfl)); intro gb648 hg w5 hbox hb; have BK648 := Aside0.mk (hbox); have GW648 := qz HB hg; have GE648 := qz HB hg; have NB647_648 := ql BK647 hg; have NB648_647 := qg BK647 hg; replace BK647 := qb BK647 hb; replace HB := qs HB hb; clear hb hbox hg; have hnb6 := NB647_648.out; have hnc6 := NB648_647.out; obtain ⟨hcz7_0, hcz7_1, hcz7_2, hfz7_0, hfz7_1, hfz7_2⟩ := qc3 BK647) | ((with_reducible refine gate_callee (f := 37) rfl ?_); refine qgo (some 11) rfl rfl Try.func37 #[.agg #[.int .i64 a0_0, .int .i64 a0_1, .string a0_2], .agg #[.int .i64 a0_0, .int .i64 a0_1, .string a0_2], .bool false] rfl ?_; (with_reducible refine (marqueeref02_first.calls k a0_0 a0_1 a0_2 a0_0 a0_1 a0_2 false t649 true _ A2.out).mono ?_); rintro e w8 ⟨rfl, hb⟩; refine ⟨_, rfl, ?_⟩; replace BK647 := qb BK647 hb; replace BK648 := qb BK648 hb; replace HB := qs HB hb; (try clear hb); (try clear hb2); (try clear hk); (try clear hi); (try clear A2); obtain ⟨hcz9_0, hcz9_1, hcz9_2, hfz9_0, hfz9_1, hfz9_2⟩ := qc3 BK648))
    refine bodyPost_ret (results_ct rfl _ _ gb648 23 #[.int .i64 0, .int .i64 0, .string (⟨#[]⟩ : ByteArray)] (0, 0) _ rfl (by (with_reducible repeat (first | refine blk_drewN ?_ _ | refine blk_drew ?_ | refine blk_alloc ?_ _)); refine blk_put (cs := #[.int .i64 0, .int .i64 0, .string (⟨#[]⟩ : ByteArray)]) ?_ 2 _ rfl; (with_reducible repeat (first | refine blk_drewN ?_ _ | refine blk_drew ?_ | refine blk_alloc ?_ _)); refine blk_put (cs := #[.int .i64 0, .int .i64 0, .string (⟨#[]⟩ : ByteArray)]) ?_ 1 _ rfl; (with_reducible repeat (first | refine blk_drewN ?_ _ | refine blk_drew ?_ | refine blk_alloc ?_ _)); refine blk_put (cs := #[.int .i64 0, .int .i64 0, .string (⟨#[]⟩ : ByteArray)]) ?_ 0 _ rfl; (with_reducible repeat (first | refine blk_drewN ?_ _ | refine blk_drew ?_ | refine blk_alloc ?_ _)); exact BK648.out) Try.underlying23 rfl (by kernel_rfl)) rfl ?_
    exact ⟨by first | rfl | (simp [errW_none, errW_some] <;> rfl) | (simp [*, errW_none, errW_some] <;> rfl), by repeat (first | (with_reducible first | exact HB.out | apply below_alloc | apply pw_below_drewN | apply below_drew1 | refine below_set ?_ GE647.out | refine below_set ?_ GE648.out) | exact HB.out)⟩
  · replace c3 := Bool.eq_false_iff.mpr c3
    subst c3
    have H1 : ((marqueeref02_dec.f a0_0 a0_1 a0_2).bind fun bt651 => ((marqueeref02_of.f 3 bt651.1 bt651.2).bind fun bt653 => (some (bt653.1, bt653.2.1, bt653.2.2.1, bt653.2.2.2)))) = some (r1, r2, r3, r4) := by rw [if_neg (show ¬ (false = true) by decide)] at H; exact H
    clear H
    have H := H1
    clear H1
    replace H := Option.bind_eq_some_iff.mp H
    obtain ⟨⟨t651, t652⟩, A100, H⟩ := H
    replace H : ((marqueeref02_of.f 3 t651 t652).bind fun bt653 => (some (bt653.1, bt653.2.1, bt653.2.2.1, bt653.2.2.2))) = some (r1, r2, r3, r4) := H
    have A10 := Aside0.mk A100
    clear A100
    replace H := Option.bind_eq_some_iff.mp H
    obtain ⟨⟨t653, t654, t655, t656⟩, A110, H⟩ := H
    replace H : (some (t653, t654, t655, t656)) = some (r1, r2, r3, r4) := H
    have A11 := Aside0.mk A110
    clear A110
    simp only [Option.some.injEq, Prod.mk.injEq] at H
    obtain ⟨rfl, rfl, rfl, rfl⟩ := H
    go_enter Try.func25, Try.ntmps25
    go_wp2_with (first | ((with_reducible refine gate_dst (N := 1) rfl ?_); refine box_event ?hg (N := 1) ?hd (cs := #[.int .i64 a0_0, .int .i64 a0_1, .string a0_2]) (t := 23) ?hr ?_; (case hd => rfl); (case hg => rfl); (case hr => first | (go_simp; done) | (go_simp; rfl)); intro gb647 hg w12 hbox hb; have BK647 := Aside0.mk (hbox); have GW647 := qz HB hg; have GE647 := qz HB hg; replace HB := qs HB hb; clear hb hbox hg) | ((with_reducible refine gate_dst (N := 2) rfl ?_); refine box_event ?hg (N := 2) ?hd (cs := #[.int .i64 0, .int .i64 0, .string (⟨#[]⟩ : ByteArray)]) (t := 23) ?hr ?_; (case hd => rfl); (case hg => rfl); (case hr => first | (go_simp; done) | (go_simp; rfl)); intro gb648 hg w13 hbox hb; have BK648 := Aside0.mk (hbox); have GW648 := qz HB hg; have GE648 := qz HB hg; have NB647_648 := ql BK647 hg; have NB648_647 := qg BK647 hg; replace BK647 := qb BK647 hb; replace HB := qs HB hb; clear hb hbox hg; have hnb14 := NB647_648.out; have hnc14 := NB648_647.out; obtain ⟨hcz15_0, hcz15_1, hcz15_2, hfz15_0, hfz15_1, hfz15_2⟩ := qc3 BK647) | ((with_reducible refine gate_callee (f := 37) rfl ?_); refine qgo (some 11) rfl rfl Try.func37 #[.agg #[.int .i64 a0_0, .int .i64 a0_1, .string a0_2], .agg #[.int .i64 a0_0, .int .i64 a0_1, .string a0_2], .bool false] rfl ?_; (with_reducible refine (marqueeref02_first.calls k a0_0 a0_1 a0_2 a0_0 a0_1 a0_2 false t649 false _ A2.out).mono ?_); rintro e w16 ⟨rfl, hb⟩; refine ⟨_, rfl, ?_⟩; replace BK647 := qb BK647 hb; replace BK648 := qb BK648 hb; replace HB := qs HB hb; (try clear hb); (try clear hb2); (try clear hk); (try clear hi); (try clear A2); obtain ⟨hcz17_0, hcz17_1, hcz17_2, hfz17_0, hfz17_1, hfz17_2⟩ := qc3 BK647) | ((with_reducible refine gate_callee (f := 43) rfl ?_); refine qgo (some 19) rfl rfl Try.func43 #[.agg #[.int .i64 a0_0, .int .i64 a0_1, .string a0_2]] rfl ?_; (with_reducible refine (marqueeref02_dec.calls a0_0 a0_1 a0_2 t651 t652 _ A10.out).mono ?_); rintro e w18 ⟨rfl, hb⟩; refine ⟨_, rfl, ?_⟩; replace BK647 := qb BK647 hb; replace BK648 := qb BK648 hb; replace HB := qs HB hb; (try clear hb); (try clear hb2); (try clear hk); (try clear hi); (try clear A10)) | ((with_reducible refine gate_callee (f := 38) rfl ?_); refine qgo (some 24) rfl rfl Try.func38 #[.int .i64 3, .int .i64 t651, .bool t652] rfl ?_; (with_reducible refine (marqueeref02_of.calls 3 t651 t652 t653 t654 t655 t656 _ A11.out).mono ?_); rintro e w19 ⟨rfl, hb⟩; refine ⟨_, rfl, ?_⟩; replace BK647 := qb BK647 hb; replace BK648 := qb BK648 hb; replace HB := qs HB hb; (try clear hb); (try clear hb2); (try clear hk); (try clear hi); (try clear A11); obtain ⟨hcz20_0, hcz20_1, hcz20_2, hfz20_0, hfz20_1, hfz20_2⟩ := qc3 BK648))
    refine bodyPost_ret (results_ct rfl _ _ gb648 23 #[.int .i64 t653, .int .i64 t654, .string t655] (0, 0) _ rfl (by (with_reducible repeat (first | refine blk_drewN ?_ _ | refine blk_drew ?_ | refine blk_alloc ?_ _)); refine blk_put (cs := #[.int .i64 t653, .int .i64 t654, .string (⟨#[]⟩ : ByteArray)]) ?_ 2 _ rfl; (with_reducible repeat (first | refine blk_drewN ?_ _ | refine blk_drew ?_ | refine blk_alloc ?_ _)); refine blk_put (cs := #[.int .i64 t653, .int .i64 0, .string (⟨#[]⟩ : ByteArray)]) ?_ 1 _ rfl; (with_reducible repeat (first | refine blk_drewN ?_ _ | refine blk_drew ?_ | refine blk_alloc ?_ _)); refine blk_put (cs := #[.int .i64 0, .int .i64 0, .string (⟨#[]⟩ : ByteArray)]) ?_ 0 _ rfl; (with_reducible repeat (first | refine blk_drewN ?_ _ | refine blk_drew ?_ | refine blk_alloc ?_ _)); exact BK648.out) Try.underlying23 rfl (by kernel_rfl)) rfl ?_
    exact ⟨by first | rfl | (simp [errW_none, errW_some] <;> rfl) | (simp [*, errW_none, errW_some] <;> rfl), by repeat (first | (with_reducible first | exact HB.out | apply below_alloc | apply pw_below_drewN | apply below_drew1 | refine below_set ?_ GE647.out | refine below_set ?_ GE648.out) | exact HB.out)⟩

end Go.Proofs.Ytnfolhfnkbidgaa.Print
