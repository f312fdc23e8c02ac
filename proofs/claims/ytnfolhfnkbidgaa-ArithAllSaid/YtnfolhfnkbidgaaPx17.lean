-- written by wip/pp.py (a program of this session's own over the kit's printer) out of the translation
import Derived.Test.YtnfolhfnkbidgaaQ
import Derived.Test.YtnfolhfnkbidgaaPx0
import Derived.Test.YtnfolhfnkbidgaaPx1
import Derived.Test.YtnfolhfnkbidgaaPx3
import Derived.Test.YtnfolhfnkbidgaaPx4
import Derived.Test.YtnfolhfnkbidgaaPx5
import Derived.Test.YtnfolhfnkbidgaaPx6
import Derived.Test.YtnfolhfnkbidgaaPx8
import Derived.Test.YtnfolhfnkbidgaaPx10
import Derived.Test.YtnfolhfnkbidgaaPx12
import Derived.Test.YtnfolhfnkbidgaaPx13
import Derived.Test.YtnfolhfnkbidgaaPx15
import Derived.Test.YtnfolhfnkbidgaaPx16
namespace Go.Proofs.Ytnfolhfnkbidgaa.Print
open Go.RowKit Go.Proofs.YtnfolhfnkbidgaaW.PrintWords Go.Proofs.YtnfolhfnkbidgaaW.PrintLast Go.Proofs.YtnfolhfnkbidgaaW.PrintMore
attribute [local go_sem] max2_int min2_int max_two min_two max_three min_three max_four min_four   -- for this text's walks alone
set_option linter.unusedVariables false
set_option linter.unusedSimpArgs false

attribute [local go_sem high] eqA23
/-! ### marqueeref02_Int: function 26 -/
def marqueeref02_Int.f (k : Nat) (a0_0 : Int) (a0_1 : Int) (a0_2 : ByteArray) : Option (Int × Int × ByteArray × Int) := (marqueeref02_first.f k a0_0 a0_1 a0_2 a0_0 a0_1 a0_2 false).bind fun bt659 => (if bt659.2 = true then (some (0, 0, (⟨#[]⟩ : ByteArray), bt659.1)) else (if a0_0 = 3 then ((marqueeref02_of.f 2 (wrap64 (Int.tdiv a0_1 10000)) true).bind fun bt661 => (some (bt661.1, bt661.2.1, bt661.2.2.1, bt661.2.2.2))) else ((marqueeref02_of.f 2 a0_1 true).bind fun bt665 => (some (bt665.1, bt665.2.1, bt665.2.2.1, bt665.2.2.2)))))
theorem marqueeref02_Int.mono : ∀ a0 a1 a2 k, LeO (marqueeref02_Int.f k a0 a1 a2) (marqueeref02_Int.f (k + 1) a0 a1 a2) := by
  intro a0 a1 a2 k
  unfold marqueeref02_Int.f
  repeat' first
      | (with_reducible exact marqueeref02_first.mono _ _ _ _ _ _ _ _)
      | (with_reducible exact LeO.refl _)
      | (with_reducible exact LeO.none _)
      | (with_reducible refine LeO.ite ?_ ?_)
      | (with_reducible refine LeO.bind ?_ (fun _ => ?_))
      | exact marqueeref02_first.mono _ _ _ _ _ _ _ _
      | exact LeO.none _
      | refine LeO.ite ?_ ?_
      | refine LeO.bind ?_ (fun _ => ?_)
set_option maxHeartbeats 8000000 in
set_option maxRecDepth 100000 in
theorem marqueeref02_Int.calls (k : Nat) (a0_0 : Int) (a0_1 : Int) (a0_2 : ByteArray) (r1 : Int) (r2 : Int) (r3 : ByteArray) (r4 : Int) (w : World) (h : marqueeref02_Int.f k a0_0 a0_1 a0_2 = some (r1, r2, r3, r4)) :
    Calls Try.prog 26 #[.agg #[.int .i64 a0_0, .int .i64 a0_1, .string a0_2]] w fun e w' => e = .returned (.tuple #[.agg #[.int .i64 r1, .int .i64 r2, .string r3], .int .i64 r4]) ∧ Below w.heap.size w w' := by
  have hu23 := Try.underlying23
  have HB := Aside0.mk (Below.refl w.heap.size w)
  have H : ((marqueeref02_first.f k a0_0 a0_1 a0_2 a0_0 a0_1 a0_2 false).bind fun bt659 => (if bt659.2 = true then (some (0, 0, (⟨#[]⟩ : ByteArray), bt659.1)) else (if a0_0 = 3 then ((marqueeref02_of.f 2 (wrap64 (Int.tdiv a0_1 10000)) true).bind fun bt661 => (some (bt661.1, bt661.2.1, bt661.2.2.1, bt661.2.2.2))) else ((marqueeref02_of.f 2 a0_1 true).bind fun bt665 => (some (bt665.1, bt665.2.1, bt665.2.2.1, bt665.2.2.2)))))) = some (r1, r2, r3, r4) := h
  clear h
  replace H := Option.bind_eq_some_iff.mp H
  obtain ⟨⟨t659, t660⟩, A20, H⟩ := H
  replace H : (if t660 = true then (some (0, 0, (⟨#[]⟩ : ByteArray), t659)) else (if a0_0 = 3 then ((marqueeref02_of.f 2 (wrap64 (Int.tdiv a0_1 10000)) true).bind fun bt661 => (some (bt661.1, bt661.2.1, bt661.2.2.1, bt661.2.2.2))) else ((marqueeref02_of.f 2 a0_1 true).bind fun bt665 => (some (bt665.1, bt665.2.1, bt665.2.2.1, bt665.2.2.2))))) = some (r1, r2, r3, r4) := H
  have A2 := Aside0.mk A20
  clear A20
  by_cases c3 : t660 = true
  · subst c3
    have H1 : (some (0, 0, (⟨#[]⟩ : ByteArray), t659)) = some (r1, r2, r3, r4) := by rw [if_pos rfl] at H; exact H
    clear H
    have H := H1
    clear H1
    simp only [Option.some.injEq, Prod.mk.injEq] at H
    obtain ⟨rfl, rfl, rfl, rfl⟩ := H
    go_enter Try.func26, Try.ntmps26
    go_wp2_with (first | ((with_reducible refine gate_dst (N := 1) rfl ?_); refine box_event ?hg (N := 1) ?hd (cs := #[.int .i64 a0_0, .int .i64 a0_1, .string a0_2]) (t := 23) ?hr ?_; (case hd => rfl); (case hg => rfl); (case hr => first | (go_simp; done) | (go_simp; rfl)); intro gb657 hg w4 hbox hb; have BK657 := Aside0.mk (hbox); have GW657 := qz HB hg; have GE657 := qz HB hg; replace HB := qs HB hb; clear hb hbox hg) | ((with_reducible refine gate_dst (N := 2) rfl ?_); refine box_event ?hg (N := 2) ?hd (cs := #[.int .i64 0, .int .i64 0, .string (⟨#[]⟩ : ByteArray)]) (t := 23) ?hr ?_; (case hd => rfl); (case hg => rfl); (case hr => first | (go_simp; done) | (go_simp; rfl)); intro gb658 hg w5 hbox hb; have BK658 := Aside0.mk (hbox); have GW658 := qz HB hg; have GE658 := qz HB hg; have NB657_658 := ql BK657 hg; have NB658_657 := qg BK657 hg; replace BK657 := qb BK657 hb; replace HB := qs HB hb; clear hb hbox hg; have hnb6 := NB657_658.out; have hnc6 := NB658_657.out; obtain ⟨hcz7_0, hcz7_1, hcz7_2, hfz7_0, hfz7_1, hfz7_2⟩ := qc3 BK657) | ((with_reducible refine gate_callee (f := 37) rfl ?_); refine qgo (some 9) rfl rfl Try.func37 #[.agg #[.int .i64 a0_0, .int .i64 a0_1, .string a0_2], .agg #[.int .i64 a0_0, .int .i64 a0_1, .string a0_2], .bool false] rfl ?_; (with_reducible refine (marqueeref02_first.calls k a0_0 a0_1 a0_2 a0_0 a0_1 a0_2 false t659 true _ A2.out).mono ?_); rintro e w8 ⟨rfl, hb⟩; refine ⟨_, rfl, ?_⟩; replace BK657 := qb BK657 hb; replace BK658 := qb BK658 hb; replace HB := qs HB hb; (try clear hb); (try clear hb2); (try clear hk); (try clear hi); (try clear A2); obtain ⟨hcz9_0, hcz9_1, hcz9_2, hfz9_0, hfz9_1, hfz9_2⟩ := qc3 BK658))
    refine bodyPost_ret (results_ct rfl _ _ gb658 23 #[.int .i64 0, .int .i64 0, .string (⟨#[]⟩ : ByteArray)] (0, 0) _ rfl (by (with_reducible repeat (first | refine blk_drewN ?_ _ | refine blk_drew ?_ | refine blk_alloc ?_ _)); refine blk_put (cs := #[.int .i64 0, .int .i64 0, .string (⟨#[]⟩ : ByteArray)]) ?_ 2 _ rfl; (with_reducible repeat (first | refine blk_drewN ?_ _ | refine blk_drew ?_ | refine blk_alloc ?_ _)); refine blk_put (cs := #[.int .i64 0, .int .i64 0, .string (⟨#[]⟩ : ByteArray)]) ?_ 1 _ rfl; (with_reducible repeat (first | refine blk_drewN ?_ _ | refine blk_drew ?_ | refine blk_alloc ?_ _)); refine blk_put (cs := #[.int .i64 0, .int .i64 0, .string (⟨#[]⟩ : ByteArray)]) ?_ 0 _ rfl; (with_reducible repeat (first | refine blk_drewN ?_ _ | refine blk_drew ?_ | refine blk_alloc ?_ _)); exact BK658.out) Try.underlying23 rfl (by kernel_rfl)) rfl ?_
    exact ⟨by first | rfl | (simp [errW_none, errW_some] <;> rfl) | (simp [*, errW_none, errW_some] <;> rfl), by repeat (first | (with_reducible first | exact HB.out | apply below_alloc | apply pw_below_drewN | apply below_drew1 | refine below_set ?_ GE657.out | refine below_set ?_ GE658.out) | exact HB.out)⟩
  · replace c3 := Bool.eq_false_iff.mpr c3
    subst c3
    have H1 : (if a0_0 = 3 then ((marqueeref02_of.f 2 (wrap64 (Int.tdiv a0_1 10000)) true).bind fun bt661 => (some (bt661.1, bt661.2.1, bt661.2.2.1, bt661.2.2.2))) else ((marqueeref02_of.f 2 a0_1 true).bind fun bt665 => (some (bt665.1, bt665.2.1, bt665.2.2.1, bt665.2.2.2)))) = some (r1, r2, r3, r4) := by rw [if_neg (show ¬ (false = true) by decide)] at H; exact H
    clear H
    have H := H1
    clear H1
    by_cases c10 : a0_0 = 3
    · rw [if_pos c10] at H
      have c10b0 : (a0_0 == 3) = true := beq_iff_eq.mpr c10
      have c10b1 : (a0_0 != 3) = false := bne_eq_false_iff_eq.mpr c10
      clear c10
      replace H := Option.bind_eq_some_iff.mp H
      obtain ⟨⟨t661, t662, t663, t664⟩, A110, H⟩ := H
      replace H : (some (t661, t662, t663, t664)) = some (r1, r2, r3, r4) := H
      have A11 := Aside0.mk A110
      clear A110
      simp only [Option.some.injEq, Prod.mk.injEq] at H
      obtain ⟨rfl, rfl, rfl, rfl⟩ := H
      go_enter Try.func26, Try.ntmps26
      go_wp2_with (first | ((with_reducible refine gate_dst (N := 1) rfl ?_); refine box_event ?hg (N := 1) ?hd (cs := #[.int .i64 a0_0, .int .i64 a0_1, .string a0_2]) (t := 23) ?hr ?_; (case hd => rfl); (case hg => rfl); (case hr => first | (go_simp; done) | (go_simp; rfl)); intro gb657 hg w12 hbox hb; have BK657 := Aside0.mk (hbox); have GW657 := qz HB hg; have GE657 := qz HB hg; replace HB := qs HB hb; clear hb hbox hg) | ((with_reducible refine gate_dst (N := 2) rfl ?_); refine box_event ?hg (N := 2) ?hd (cs := #[.int .i64 0, .int .i64 0, .string (⟨#[]⟩ : ByteArray)]) (t := 23) ?hr ?_; (case hd => rfl); (case hg => rfl); (case hr => first | (go_simp; done) | (go_simp; rfl)); intro gb658 hg w13 hbox hb; have BK658 := Aside0.mk (hbox); have GW658 := qz HB hg; have GE658 := qz HB hg; have NB657_658 := ql BK657 hg; have NB658_657 := qg BK657 hg; replace BK657 := qb BK657 hb; replace HB := qs HB hb; clear hb hbox hg; have hnb14 := NB657_658.out; have hnc14 := NB658_657.out; obtain ⟨hcz15_0, hcz15_1, hcz15_2, hfz15_0, hfz15_1, hfz15_2⟩ := qc3 BK657) | ((with_reducible refine gate_callee (f := 37) rfl ?_); refine qgo (some 9) rfl rfl Try.func37 #[.agg #[.int .i64 a0_0, .int .i64 a0_1, .string a0_2], .agg #[.int .i64 a0_0, .int .i64 a0_1, .string a0_2], .bool false] rfl ?_; (with_reducible refine (marqueeref02_first.calls k a0_0 a0_1 a0_2 a0_0 a0_1 a0_2 false t659 false _ A2.out).mono ?_); rintro e w16 ⟨rfl, hb⟩; refine ⟨_, rfl, ?_⟩; replace BK657 := qb BK657 hb; replace BK658 := qb BK658 hb; replace HB := qs HB hb; (try clear hb); (try clear hb2); (try clear hk); (try clear hi); (try clear A2); obtain ⟨hcz17_0, hcz17_1, hcz17_2, hfz17_0, hfz17_1, hfz17_2⟩ := qc3 BK657) | ((with_reducible refine gate_callee (f := 38) rfl ?_); refine qgo (some 21) rfl rfl Try.func38 #[.int .i64 2, .int .i64 (wrap64 (Int.tdiv a0_1 10000)), .bool true] rfl ?_; (with_reducible refine (marqueeref02_of.calls 2 (wrap64 (Int.tdiv a0_1 10000)) true t661 t662 t663 t664 _ A11.out).mono ?_); rintro e w18 ⟨rfl, hb⟩; refine ⟨_, rfl, ?_⟩; replace BK657 := qb BK657 hb; replace BK658 := qb BK658 hb; replace HB := qs HB hb; (try clear hb); (try clear hb2); (try clear hk); (try clear hi); (try clear A11); obtain ⟨hcz19_0, hcz19_1, hcz19_2, hfz19_0, hfz19_1, hfz19_2⟩ := qc3 BK658))
      refine bodyPost_ret (results_ct rfl _ _ gb658 23 #[.int .i64 t661, .int .i64 t662, .string t663] (0, 0) _ rfl (by (with_reducible repeat (first | refine blk_drewN ?_ _ | refine blk_drew ?_ | refine blk_alloc ?_ _)); refine blk_put (cs := #[.int .i64 t661, .int .i64 t662, .string (⟨#[]⟩ : ByteArray)]) ?_ 2 _ rfl; (with_reducible repeat (first | refine blk_drewN ?_ _ | refine blk_drew ?_ | refine blk_alloc ?_ _)); refine blk_put (cs := #[.int .i64 t661, .int .i64 0, .string (⟨#[]⟩ : ByteArray)]) ?_ 1 _ rfl; (with_reducible repeat (first | refine blk_drewN ?_ _ | refine blk_drew ?_ | refine blk_alloc ?_ _)); refine blk_put (cs := #[.int .i64 0, .int .i64 0, .string (⟨#[]⟩ : ByteArray)]) ?_ 0 _ rfl; (with_reducible repeat (first | refine blk_drewN ?_ _ | refine blk_drew ?_ | refine blk_alloc ?_ _)); exact BK658.out) Try.underlying23 rfl (by kernel_rfl)) rfl ?_
      exact ⟨by first | rfl | (simp [errW_none, errW_some] <;> rfl) | (simp [*, errW_none, errW_some] <;> rfl), by repeat (first | (with_reducible first | exact HB.out | apply below_alloc | apply pw_below_drewN | apply below_drew1 | refine below_set ?_ GE657.out | refine below_set ?_ GE658.out) | exact HB.out)⟩
    · rw [if_neg c10] at H
      have c10b0 : (a0_0 == 3) = false := beq_eq_false_iff_ne.mpr c10
      have c10b1 : (a0_0 != 3) = true := bne_iff_ne.mpr c10
      replace H := Option.bind_eq_some_iff.mp H
      obtain ⟨⟨t665, t666, t667, t668⟩, A200, H⟩ := H
      replace H : (some (t665, t666, t667, t668)) = some (r1, r2, r3, r4) := H
      have A20 := Aside0.mk A200
      clear A200
      simp only [Option.some.injEq, Prod.mk.injEq] at H
      obtain ⟨rfl, rfl, rfl, rfl⟩ := H
      go_enter Try.func26, Try.ntmps26
      go_wp2_with (first | ((with_reducible refine gate_dst (N := 1) rfl ?_); refine box_event ?hg (N := 1) ?hd (cs := #[.int .i64 a0_0, .int .i64 a0_1, .string a0_2]) (t := 23) ?hr ?_; (case hd => rfl); (case hg => rfl); (case hr => first | (go_simp; done) | (go_simp; rfl)); intro gb657 hg w21 hbox hb; have BK657 := Aside0.mk (hbox); have GW657 := qz HB hg; have GE657 := qz HB hg; replace HB := qs HB hb; clear hb hbox hg) | ((with_reducible refine gate_dst (N := 2) rfl ?_); refine box_event ?hg (N := 2) ?hd (cs := #[.int .i64 0, .int .i64 0, .string (⟨#[]⟩ : ByteArray)]) (t := 23) ?hr ?_; (case hd => rfl); (case hg => rfl); (case hr => first | (go_simp; done) | (go_simp; rfl)); intro gb658 hg w22 hbox hb; have BK658 := Aside0.mk (hbox); have GW658 := qz HB hg; have GE658 := qz HB hg; have NB657_658 := ql BK657 hg; have NB658_657 := qg BK657 hg; replace BK657 := qb BK657 hb; replace HB := qs HB hb; clear hb hbox hg; have hnb23 := NB657_658.out; have hnc23 := NB658_657.out; obtain ⟨hcz24_0, hcz24_1, hcz24_2, hfz24_0, hfz24_1, hfz24_2⟩ := qc3 BK657) | ((with_reducible refine gate_callee (f := 37) rfl ?_); refine qgo (some 9) rfl rfl Try.func37 #[.agg #[.int .i64 a0_0, .int .i64 a0_1, .string a0_2], .agg #[.int .i64 a0_0, .int .i64 a0_1, .string a0_2], .bool false] rfl ?_; (with_reducible refine (marqueeref02_first.calls k a0_0 a0_1 a0_2 a0_0 a0_1 a0_2 false t659 false _ A2.out).mono ?_); rintro e w25 ⟨rfl, hb⟩; refine ⟨_, rfl, ?_⟩; replace BK657 := qb BK657 hb; replace BK658 := qb BK658 hb; replace HB := qs HB hb; (try clear hb); (try clear hb2); (try clear hk); (try clear hi); (try clear A2); obtain ⟨hcz26_0, hcz26_1, hcz26_2, hfz26_0, hfz26_1, hfz26_2⟩ := qc3 BK657) | ((with_reducible refine gate_callee (f := 38) rfl ?_); refine qgo (some 26) rfl rfl Try.func38 #[.int .i64 2, .int .i64 a0_1, .bool true] rfl ?_; (with_reducible refine (marqueeref02_of.calls 2 a0_1 true t665 t666 t667 t668 _ A20.out).mono ?_); rintro e w27 ⟨rfl, hb⟩; refine ⟨_, rfl, ?_⟩; replace BK657 := qb BK657 hb; replace BK658 := qb BK658 hb; replace HB := qs HB hb; (try clear hb); (try clear hb2); (try clear hk); (try clear hi); (try clear A20); obtain ⟨hcz28_0, hcz28_1, hcz28_2, hfz28_0, hfz28_1, hfz28_2⟩ := qc3 BK658))
      refine bodyPost_ret (results_ct rfl _ _ gb658 23 #[.int .i64 t665, .int .i64 t666, .string t667] (0, 0) _ rfl (by (with_reducible repeat (first | refine blk_drewN ?_ _ | refine blk_drew ?_ | refine blk_alloc ?_ _)); refine blk_put (cs := #[.int .i64 t665, .int .i64 t666, .string (⟨#[]⟩ : ByteArray)]) ?_ 2 _ rfl; (with_reducible repeat (first | refine blk_drewN ?_ _ | refine blk_drew ?_ | refine blk_alloc ?_ _)); refine blk_put (cs := #[.int .i64 t665, .int .i64 0, .string (⟨#[]⟩ : ByteArray)]) ?_ 1 _ rfl; (with_reducible repeat (first | refine blk_drewN ?_ _ | refine blk_drew ?_ | refine blk_alloc ?_ _)); refine blk_put (cs := #[.int .i64 0, .int .i64 0, .string (⟨#[]⟩ : ByteArray)]) ?_ 0 _ rfl; (with_reducible repeat (first | refine blk_drewN ?_ _ | refine blk_drew ?_ | refine blk_alloc ?_ _)); exact BK658.out) Try.underlying23 rfl (by kernel_rfl)) rfl ?_
      exact ⟨by first | rfl | (simp [errW_none, errW_some] <;> rfl) | (simp [*, errW_none, errW_some] <;> rfl), by repeat (first | (with_reducible first | exact HB.out | apply below_alloc | apply pw_below_drewN | apply below_drew1 | refine below_set ?_ GE657.out | refine below_set ?_ GE658.out) | exact HB.out)⟩

/-! ### marqueelaw02_ArithAll: function 6 -/
def marqueelaw02_ArithAll.l0 : Nat → Int → Int → Int → ByteArray → Int → Int → ByteArray → Option (Bool)
  | 0, _, _, _, _, _, _, _ => none
  | k + 1, x5, x670000, x670001, x670002, x671000, x671001, x671002 => if x5 < 8 then (if x5 = 0 then ((arith_Neg.f k x670000 x670001 x670002).bind fun bt674 => ((marqueeref02_Neg.f k x670000 x670001 x670002).bind fun bt678 => (if (!(bt674.1 == bt678.1) || (!(bt674.2.1 == bt678.2.1) || (!(bt674.2.2.1.toList == bt678.2.2.1.toList)))) = true then (none) else (if bt674.2.2.2 = bt678.2.2.2 then (marqueelaw02_ArithAll.l0 k (wrap64 (x5 + 1)) x670000 x670001 x670002 x671000 x671001 x671002) else (none))))) else (if x5 = 1 then ((arith_Add.f k x670000 x670001 x670002 x671000 x671001 x671002).bind fun bt682 => ((marqueeref02_Add.f k x670000 x670001 x670002 x671000 x671001 x671002).bind fun bt686 => (if (!(bt682.1 == bt686.1) || (!(bt682.2.1 == bt686.2.1) || (!(bt682.2.2.1.toList == bt686.2.2.1.toList)))) = true then (none) else (if bt682.2.2.2 = bt686.2.2.2 then (marqueelaw02_ArithAll.l0 k (wrap64 (x5 + 1)) x670000 x670001 x670002 x671000 x671001 x671002) else (none))))) else (if x5 = 2 then ((arith_Sub.f k x670000 x670001 x670002 x671000 x671001 x671002).bind fun bt690 => ((marqueeref02_Sub.f k x670000 x670001 x670002 x671000 x671001 x671002).bind fun bt694 => (if (!(bt690.1 == bt694.1) || (!(bt690.2.1 == bt694.2.1) || (!(bt690.2.2.1.toList == bt694.2.2.1.toList)))) = true then (none) else (if bt690.2.2.2 = bt694.2.2.2 then (marqueelaw02_ArithAll.l0 k (wrap64 (x5 + 1)) x670000 x670001 x670002 x671000 x671001 x671002) else (none))))) else (if x5 = 3 then ((arith_Mul.f k x670000 x670001 x670002 x671000 x671001 x671002).bind fun bt698 => ((marqueeref02_Mul.f k x670000 x670001 x670002 x671000 x671001 x671002).bind fun bt702 => (if (!(bt698.1 == bt702.1) || (!(bt698.2.1 == bt702.2.1) || (!(bt698.2.2.1.toList == bt702.2.2.1.toList)))) = true then (none) else (if bt698.2.2.2 = bt702.2.2.2 then (marqueelaw02_ArithAll.l0 k (wrap64 (x5 + 1)) x670000 x670001 x670002 x671000 x671001 x671002) else (none))))) else (if x5 = 4 then ((arith_Div.f k x670000 x670001 x670002 x671000 x671001 x671002).bind fun bt706 => ((marqueeref02_Div.f k x670000 x670001 x670002 x671000 x671001 x671002).bind fun bt710 => (if (!(bt706.1 == bt710.1) || (!(bt706.2.1 == bt710.2.1) || (!(bt706.2.2.1.toList == bt710.2.2.1.toList)))) = true then (none) else (if bt706.2.2.2 = bt710.2.2.2 then (marqueelaw02_ArithAll.l0 k (wrap64 (x5 + 1)) x670000 x670001 x670002 x671000 x671001 x671002) else (none))))) else (if x5 = 5 then ((arith_Mod.f k x670000 x670001 x670002 x671000 x671001 x671002).bind fun bt714 => ((marqueeref02_Mod.f k x670000 x670001 x670002 x671000 x671001 x671002).bind fun bt718 => (if (!(bt714.1 == bt718.1) || (!(bt714.2.1 == bt718.2.1) || (!(bt714.2.2.1.toList == bt718.2.2.1.toList)))) = true then (none) else (if bt714.2.2.2 = bt718.2.2.2 then (marqueelaw02_ArithAll.l0 k (wrap64 (x5 + 1)) x670000 x670001 x670002 x671000 x671001 x671002) else (none))))) else (if x5 = 6 then ((arith_Dec.f k x670000 x670001 x670002).bind fun bt722 => ((marqueeref02_Dec.f k x670000 x670001 x670002).bind fun bt726 => (if (!(bt722.1 == bt726.1) || (!(bt722.2.1 == bt726.2.1) || (!(bt722.2.2.1.toList == bt726.2.2.1.toList)))) = true then (none) else (if bt722.2.2.2 = bt726.2.2.2 then (marqueelaw02_ArithAll.l0 k (wrap64 (x5 + 1)) x670000 x670001 x670002 x671000 x671001 x671002) else (none))))) else (if x5 = 7 then ((arith_Int.f k x670000 x670001 x670002).bind fun bt730 => ((marqueeref02_Int.f k x670000 x670001 x670002).bind fun bt734 => (if (!(bt730.1 == bt734.1) || (!(bt730.2.1 == bt734.2.1) || (!(bt730.2.2.1.toList == bt734.2.2.1.toList)))) = true then (none) else (if bt730.2.2.2 = bt734.2.2.2 then (marqueelaw02_ArithAll.l0 k (wrap64 (x5 + 1)) x670000 x670001 x670002 x671000 x671001 x671002) else (none))))) else (if 0 = 0 then (marqueelaw02_ArithAll.l0 k (wrap64 (x5 + 1)) x670000 x670001 x670002 x671000 x671001 x671002) else (none)))))))))) else ((marqueelaw02_sure.f k).bind fun t671 => (some t671))
def marqueelaw02_ArithAll.f (k : Nat) (a0_0 : Int) (a0_1 : Int) (a0_2 : ByteArray) (a1_0 : Int) (a1_1 : Int) (a1_2 : ByteArray) : Option (Bool) := marqueelaw02_ArithAll.l0 k 0 a0_0 a0_1 a0_2 a1_0 a1_1 a1_2
theorem marqueelaw02_ArithAll.mono_l : ∀ k, (∀ y0 y1 y2 y3 y4 y5 y6, LeO (marqueelaw02_ArithAll.l0 k y0 y1 y2 y3 y4 y5 y6) (marqueelaw02_ArithAll.l0 (k + 1) y0 y1 y2 y3 y4 y5 y6))
  | 0 => fun _ _ _ _ _ _ _ r h => by simp [marqueelaw02_ArithAll.l0] at h
  | k + 1 => by
    have ih0 := marqueelaw02_ArithAll.mono_l k
    · intro y0 y1 y2 y3 y4 y5 y6
      unfold marqueelaw02_ArithAll.l0
      repeat' first
      | (with_reducible exact ih0 _ _ _ _ _ _ _)
      | (with_reducible exact arith_Add.mono _ _ _ _ _ _ _)
      | (with_reducible exact arith_Dec.mono _ _ _ _)
      | (with_reducible exact arith_Div.mono _ _ _ _ _ _ _)
      | (with_reducible exact arith_Int.mono _ _ _ _)
      | (with_reducible exact arith_Mod.mono _ _ _ _ _ _ _)
      | (with_reducible exact arith_Mul.mono _ _ _ _ _ _ _)
      | (with_reducible exact arith_Neg.mono _ _ _ _)
      | (with_reducible exact arith_Sub.mono _ _ _ _ _ _ _)
      | (with_reducible exact marqueelaw02_sure.mono _)
      | (with_reducible exact marqueeref02_Add.mono _ _ _ _ _ _ _)
      | (with_reducible exact marqueeref02_Dec.mono _ _ _ _)
      | (with_reducible exact marqueeref02_Div.mono _ _ _ _ _ _ _)
      | (with_reducible exact marqueeref02_Int.mono _ _ _ _)
      | (with_reducible exact marqueeref02_Mod.mono _ _ _ _ _ _ _)
      | (with_reducible exact marqueeref02_Mul.mono _ _ _ _ _ _ _)
      | (with_reducible exact marqueeref02_Neg.mono _ _ _ _)
      | (with_reducible exact marqueeref02_Sub.mono _ _ _ _ _ _ _)
      | (with_reducible exact LeO.refl _)
      | (with_reducible exact LeO.none _)
      | (with_reducible refine LeO.ite ?_ ?_)
      | (with_reducible refine LeO.bind ?_ (fun _ => ?_))
      | exact ih0 _ _ _ _ _ _ _
      | exact arith_Add.mono _ _ _ _ _ _ _
      | exact arith_Dec.mono _ _ _ _
      | exact arith_Div.mono _ _ _ _ _ _ _
      | exact arith_Int.mono _ _ _ _
      | exact arith_Mod.mono _ _ _ _ _ _ _
      | exact arith_Mul.mono _ _ _ _ _ _ _
      | exact arith_Neg.mono _ _ _ _
      | exact arith_Sub.mono _ _ _ _ _ _ _
      | exact marqueelaw02_sure.mono _
      | exact marqueeref02_Add.mono _ _ _ _ _ _ _
      | exact marqueeref02_Dec.mono _ _ _ _
      | exact marqueeref02_Div.mono _ _ _ _ _ _ _
      | exact marqueeref02_Int.mono _ _ _ _
      | exact marqueeref02_Mod.mono _ _ _ _ _ _ _
      | exact marqueeref02_Mul.mono _ _ _ _ _ _ _
      | exact marqueeref02_Neg.mono _ _ _ _
      | exact marqueeref02_Sub.mono _ _ _ _ _ _ _
      | exact LeO.none _
      | refine LeO.ite ?_ ?_
      | refine LeO.bind ?_ (fun _ => ?_)
theorem marqueelaw02_ArithAll.mono : ∀ a0 a1 a2 a3 a4 a5 k, LeO (marqueelaw02_ArithAll.f k a0 a1 a2 a3 a4 a5) (marqueelaw02_ArithAll.f (k + 1) a0 a1 a2 a3 a4 a5) := by
  intro a0 a1 a2 a3 a4 a5 k
  have ih0 := marqueelaw02_ArithAll.mono_l k
  unfold marqueelaw02_ArithAll.f
  repeat' first
      | (with_reducible exact ih0 _ _ _ _ _ _ _)
      | (with_reducible exact arith_Add.mono _ _ _ _ _ _ _)
      | (with_reducible exact arith_Dec.mono _ _ _ _)
      | (with_reducible exact arith_Div.mono _ _ _ _ _ _ _)
      | (with_reducible exact arith_Int.mono _ _ _ _)
      | (with_reducible exact arith_Mod.mono _ _ _ _ _ _ _)
      | (with_reducible exact arith_Mul.mono _ _ _ _ _ _ _)
      | (with_reducible exact arith_Neg.mono _ _ _ _)
      | (with_reducible exact arith_Sub.mono _ _ _ _ _ _ _)
      | (with_reducible exact marqueelaw02_sure.mono _)
      | (with_reducible exact marqueeref02_Add.mono _ _ _ _ _ _ _)
      | (with_reducible exact marqueeref02_Dec.mono _ _ _ _)
      | (with_reducible exact marqueeref02_Div.mono _ _ _ _ _ _ _)
      | (with_reducible exact marqueeref02_Int.mono _ _ _ _)
      | (with_reducible exact marqueeref02_Mod.mono _ _ _ _ _ _ _)
      | (with_reducible exact marqueeref02_Mul.mono _ _ _ _ _ _ _)
      | (with_reducible exact marqueeref02_Neg.mono _ _ _ _)
      | (with_reducible exact marqueeref02_Sub.mono _ _ _ _ _ _ _)
      | (with_reducible exact LeO.refl _)
      | (with_reducible exact LeO.none _)
      | (with_reducible refine LeO.ite ?_ ?_)
      | (with_reducible refine LeO.bind ?_ (fun _ => ?_))
      | exact ih0 _ _ _ _ _ _ _
      | exact arith_Add.mono _ _ _ _ _ _ _
      | exact arith_Dec.mono _ _ _ _
      | exact arith_Div.mono _ _ _ _ _ _ _
      | exact arith_Int.mono _ _ _ _
      | exact arith_Mod.mono _ _ _ _ _ _ _
      | exact arith_Mul.mono _ _ _ _ _ _ _
      | exact arith_Neg.mono _ _ _ _
      | exact arith_Sub.mono _ _ _ _ _ _ _
      | exact marqueelaw02_sure.mono _
      | exact marqueeref02_Add.mono _ _ _ _ _ _ _
      | exact marqueeref02_Dec.mono _ _ _ _
      | exact marqueeref02_Div.mono _ _ _ _ _ _ _
      | exact marqueeref02_Int.mono _ _ _ _
      | exact marqueeref02_Mod.mono _ _ _ _ _ _ _
      | exact marqueeref02_Mul.mono _ _ _ _ _ _ _
      | exact marqueeref02_Neg.mono _ _ _ _
      | exact marqueeref02_Sub.mono _ _ _ _ _ _ _
      | exact LeO.none _
      | refine LeO.ite ?_ ?_
      | refine LeO.bind ?_ (fun _ => ?_)
set_option maxHeartbeats 8000000 in
set_option maxRecDepth 100000 in
theorem marqueelaw02_ArithAll.calls (k : Nat) (a0_0 : Int) (a0_1 : Int) (a0_2 : ByteArray) (a1_0 : Int) (a1_1 : Int) (a1_2 : ByteArray) (r : Bool) (w : World) (h : marqueelaw02_ArithAll.f k a0_0 a0_1 a0_2 a1_0 a1_1 a1_2 = some r) :
    Calls Try.prog 6 #[.agg #[.int .i64 a0_0, .int .i64 a0_1, .string a0_2], .agg #[.int .i64 a1_0, .int .i64 a1_1, .string a1_2]] w fun e w' => e = .returned (.bool r) ∧ Below w.heap.size w w' := by
  have hu23 := Try.underlying23
  have HB := Aside0.mk (Below.refl w.heap.size w)
  have H : (marqueelaw02_ArithAll.l0 k 0 a0_0 a0_1 a0_2 a1_0 a1_1 a1_2) = some r := h
  clear h
  have H' := Aside0.mk H
  clear H
  go_enter Try.func6, Try.ntmps6
  go_wp2_with (first | ((with_reducible refine gate_dst (N := 2) rfl ?_); refine box_event ?hg (N := 2) ?hd (cs := #[.int .i64 a0_0, .int .i64 a0_1, .string a0_2]) (t := 23) ?hr ?_; (case hd => rfl); (case hg => rfl); (case hr => first | (go_simp; done) | (go_simp; rfl)); intro gb669 hg w3 hbox hb; have BK669 := Aside0.mk (hbox); have GW669 := qz HB hg; have GE669 := qz HB hg; replace HB := qs HB hb; clear hb hbox hg) | ((with_reducible refine gate_dst (N := 3) rfl ?_); refine box_event ?hg (N := 3) ?hd (cs := #[.int .i64 a1_0, .int .i64 a1_1, .string a1_2]) (t := 23) ?hr ?_; (case hd => rfl); (case hg => rfl); (case hr => first | (go_simp; done) | (go_simp; rfl)); intro gb670 hg w4 hbox hb; have BK670 := Aside0.mk (hbox); have GW670 := qz HB hg; have GE670 := qz HB hg; have NB669_670 := ql BK669 hg; have NB670_669 := qg BK669 hg; replace BK669 := qb BK669 hb; replace HB := qs HB hb; clear hb hbox hg))
  go_loopg [5] k (fun kq v5 w' => ∃ (x5_1 : Int), v5 = .int .i64 x5_1 ∧ Aside0 (marqueelaw02_ArithAll.l0 kq x5_1 a0_0 a0_1 a0_2 a1_0 a1_1 a1_2 = some r) ∧ Aside0 (kq ≤ k) ∧ Aside0 (w'.heap[gb669]? = some (.cells #[.int .i64 a0_0, .int .i64 a0_1, .string a0_2] 23 (0, 0))) ∧ Aside0 (w'.heap[gb670]? = some (.cells #[.int .i64 a1_0, .int .i64 a1_1, .string a1_2] 23 (0, 0))) ∧ Aside0 (Below w.heap.size w w'))
  case atStart => exact ⟨(0), (by first | rfl | (simp; done) | (simp [*]; done)), H', ⟨Nat.le_refl _⟩, ⟨by (with_reducible repeat (first | refine blk_drewN ?_ _ | refine blk_drew ?_ | refine blk_alloc ?_ _)); exact BK669.out⟩, ⟨by (with_reducible repeat (first | refine blk_drewN ?_ _ | refine blk_drew ?_ | refine blk_alloc ?_ _)); exact BK670.out⟩, ⟨by repeat (first | (with_reducible first | exact HB.out | apply below_alloc | apply pw_below_drewN | apply below_drew1 | refine below_set ?_ GE669.out | refine below_set ?_ GE670.out) | exact HB.out)⟩⟩
  case round =>
    clear H'
    try clear p2
    obtain ⟨x5_1, rfl, HA, HK1, BK669, BK670, HB⟩ := hrel
    cases gk with
    | zero => exact absurd HA.out (by simp [marqueelaw02_ArithAll.l0])
    | succ k1 =>
      have H := HA.out
      clear HA
      simp only [marqueelaw02_ArithAll.l0] at H
      by_cases c5 : x5_1 < 8
      · rw [if_pos c5] at H
        have c5b0 : decide (x5_1 < 8) = true := decide_eq_true c5
        clear c5
        by_cases c6 : x5_1 = 0
        · rw [if_pos c6] at H
          have c6b0 : (x5_1 == 0) = true := beq_iff_eq.mpr c6
          have c6b1 : (x5_1 != 0) = false := bne_eq_false_iff_eq.mpr c6
          clear c6
          replace H := Option.bind_eq_some_iff.mp H
          obtain ⟨⟨t674, t675, t676, t677⟩, A70, H⟩ := H
          (try dsimp only at H)
          have A7 := Aside0.mk A70
          clear A70
          replace H := Option.bind_eq_some_iff.mp H
          obtain ⟨⟨t678, t679, t680, t681⟩, A80, H⟩ := H
          (try dsimp only at H)
          have A8 := Aside0.mk A80
          clear A80
          by_cases c9 : (!(t674 == t678) || (!(t675 == t679) || (!(t676.toList == t680.toList)))) = true
          · rw [if_pos c9] at H
            exact absurd H (by simp)
          · rw [if_neg c9] at H
            have c9b0 : (!(t674 == t678) || (!(t675 == t679) || (!(t676.toList == t680.toList)))) = false := by simpa using c9
            clear c9
            by_cases c10 : t677 = t681
            · rw [if_pos c10] at H
              have c10b0 : (t677 == t681) = true := beq_iff_eq.mpr c10
              have c10b1 : (t677 != t681) = false := bne_eq_false_iff_eq.mpr c10
              clear c10
              have H' := Aside0.mk H
              clear H
              go_wp2_with (first | ((with_reducible refine gate_dst (N := 6) rfl ?_); refine box_event ?hg (N := 6) ?hd (cs := #[.int .i64 0, .int .i64 0, .string (⟨#[]⟩ : ByteArray)]) (t := 23) ?hr ?_; (case hd => rfl); (case hg => rfl); (case hr => first | (go_simp; done) | (go_simp; rfl)); intro gb672 hg w11 hbox hb; have BK672 := Aside0.mk (hbox); have GW672 := qz HB hg; have GE672 := qz HB hg; have NB669_672 := ql BK669 hg; have NB672_669 := qg BK669 hg; have NB670_672 := ql BK670 hg; have NB672_670 := qg BK670 hg; replace BK669 := qb BK669 hb; replace BK670 := qb BK670 hb; replace HB := qs HB hb; clear hb hbox hg) | ((with_reducible refine gate_dst (N := 7) rfl ?_); refine box_event ?hg (N := 7) ?hd (cs := #[.int .i64 0, .int .i64 0, .string (⟨#[]⟩ : ByteArray)]) (t := 23) ?hr ?_; (case hd => rfl); (case hg => rfl); (case hr => first | (go_simp; done) | (go_simp; rfl)); intro gb673 hg w12 hbox hb; have BK673 := Aside0.mk (hbox); have GW673 := qz HB hg; have GE673 := qz HB hg; have NB669_673 := ql BK669 hg; have NB673_669 := qg BK669 hg; have NB670_673 := ql BK670 hg; have NB673_670 := qg BK670 hg; have NB672_673 := ql BK672 hg; have NB673_672 := qg BK672 hg; replace BK669 := qb BK669 hb; replace BK670 := qb BK670 hb; replace BK672 := qb BK672 hb; replace HB := qs HB hb; clear hb hbox hg; have hnb13 := NB669_670.out; have hnc13 := NB670_669.out; have hnb14 := NB669_672.out; have hnc14 := NB672_669.out; have hnb15 := NB669_673.out; have hnc15 := NB673_669.out; obtain ⟨hcz16_0, hcz16_1, hcz16_2, hfz16_0, hfz16_1, hfz16_2⟩ := qc3 BK669) | ((with_reducible refine gate_callee (f := 18) rfl ?_); refine qgo (some 19) rfl rfl Try.func18 #[.agg #[.int .i64 a0_0, .int .i64 a0_1, .string a0_2]] rfl ?_; (with_reducible refine (arith_Neg.calls k1 a0_0 a0_1 a0_2 t674 t675 t676 t677 _ A7.out).mono ?_); rintro e w17 ⟨rfl, hb⟩; refine ⟨_, rfl, ?_⟩; replace BK669 := qb BK669 hb; replace BK670 := qb BK670 hb; replace BK672 := qb BK672 hb; replace BK673 := qb BK673 hb; replace HB := qs HB hb; (try clear hb); (try clear hb2); (try clear hk); (try clear hi); (try clear A7); have hnb18 := NB672_670.out; have hnc18 := NB670_672.out; have hnb19 := NB672_673.out; have hnc19 := NB673_672.out; obtain ⟨hcz20_0, hcz20_1, hcz20_2, hfz20_0, hfz20_1, hfz20_2⟩ := qc3 BK672; obtain ⟨hcz21_0, hcz21_1, hcz21_2, hfz21_0, hfz21_1, hfz21_2⟩ := qc3 BK669) | ((with_reducible refine gate_callee (f := 19) rfl ?_); refine qgo (some 24) rfl rfl Try.func19 #[.agg #[.int .i64 a0_0, .int .i64 a0_1, .string a0_2]] rfl ?_; (with_reducible refine (marqueeref02_Neg.calls k1 a0_0 a0_1 a0_2 t678 t679 t680 t681 _ A8.out).mono ?_); rintro e w22 ⟨rfl, hb⟩; refine ⟨_, rfl, ?_⟩; replace BK669 := qf BK669 hb; replace BK670 := qf BK670 hb; replace BK672 := Aside0.mk (blk_below (g := gb672) (o := .cells #[.int .i64 t674, .int .i64 t675, .string t676] 23 (0, 0)) (by (with_reducible repeat (first | refine blk_drewN ?_ _ | refine blk_drew ?_ | refine blk_alloc ?_ _)); refine blk_put (cs := #[.int .i64 t674, .int .i64 t675, .string (⟨#[]⟩ : ByteArray)]) ?_ 2 _ rfl; (with_reducible repeat (first | refine blk_drewN ?_ _ | refine blk_drew ?_ | refine blk_alloc ?_ _)); refine blk_put (cs := #[.int .i64 t674, .int .i64 0, .string (⟨#[]⟩ : ByteArray)]) ?_ 1 _ rfl; (with_reducible repeat (first | refine blk_drewN ?_ _ | refine blk_drew ?_ | refine blk_alloc ?_ _)); refine blk_put (cs := #[.int .i64 0, .int .i64 0, .string (⟨#[]⟩ : ByteArray)]) ?_ 0 _ rfl; (with_reducible repeat (first | refine blk_drewN ?_ _ | refine blk_drew ?_ | refine blk_alloc ?_ _)); exact BK672.out) hb); replace BK673 := qf BK673 hb; replace HB := qs HB hb; (try clear hb); (try clear hb2); (try clear hk); (try clear hi); (try clear A8); have hnb23 := NB673_670.out; have hnc23 := NB670_673.out; obtain ⟨hcz24_0, hcz24_1, hcz24_2, hfz24_0, hfz24_1, hfz24_2⟩ := qc3 BK673; obtain ⟨hcz25_0, hcz25_1, hcz25_2, hfz25_0, hfz25_1, hfz25_2⟩ := qc3 BK672))
              go_roundg k1
              case measure => have := HK1.out; omega
              case rel => exact ⟨(wrap64 (x5_1 + 1)), (by first | rfl | (simp; done) | (simp [*]; done)), H', ⟨by have := HK1.out; omega⟩, ⟨by (with_reducible repeat (first | refine blk_drewN ?_ _ | refine blk_drew ?_ | refine blk_alloc ?_ _)); refine blk_far ?_ NB669_673.out _; (with_reducible repeat (first | refine blk_drewN ?_ _ | refine blk_drew ?_ | refine blk_alloc ?_ _)); refine blk_far ?_ NB669_673.out _; (with_reducible repeat (first | refine blk_drewN ?_ _ | refine blk_drew ?_ | refine blk_alloc ?_ _)); refine blk_far ?_ NB669_673.out _; (with_reducible repeat (first | refine blk_drewN ?_ _ | refine blk_drew ?_ | refine blk_alloc ?_ _)); exact BK669.out⟩, ⟨by (with_reducible repeat (first | refine blk_drewN ?_ _ | refine blk_drew ?_ | refine blk_alloc ?_ _)); refine blk_far ?_ NB670_673.out _; (with_reducible repeat (first | refine blk_drewN ?_ _ | refine blk_drew ?_ | refine blk_alloc ?_ _)); refine blk_far ?_ NB670_673.out _; (with_reducible repeat (first | refine blk_drewN ?_ _ | refine blk_drew ?_ | refine blk_alloc ?_ _)); refine blk_far ?_ NB670_673.out _; (with_reducible repeat (first | refine blk_drewN ?_ _ | refine blk_drew ?_ | refine blk_alloc ?_ _)); exact BK670.out⟩, ⟨by repeat (first | (with_reducible first | exact HB.out | apply below_alloc | apply pw_below_drewN | apply below_drew1 | refine below_set ?_ GE669.out | refine below_set ?_ GE670.out | refine below_set ?_ GE672.out | refine below_set ?_ GE673.out) | exact HB.out)⟩⟩
            · rw [if_neg c10] at H
              exact absurd H (by simp)
        · rw [if_neg c6] at H
          have c6b0 : (x5_1 == 0) = false := beq_eq_false_iff_ne.mpr c6
          have c6b1 : (x5_1 != 0) = true := bne_iff_ne.mpr c6
          by_cases c26 : x5_1 = 1
          · rw [if_pos c26] at H
            have c26b0 : (x5_1 == 1) = true := beq_iff_eq.mpr c26
            have c26b1 : (x5_1 != 1) = false := bne_eq_false_iff_eq.mpr c26
            clear c26
            replace H := Option.bind_eq_some_iff.mp H
            obtain ⟨⟨t682, t683, t684, t685⟩, A270, H⟩ := H
            (try dsimp only at H)
            have A27 := Aside0.mk A270
            clear A270
            replace H := Option.bind_eq_some_iff.mp H
            obtain ⟨⟨t686, t687, t688, t689⟩, A280, H⟩ := H
            (try dsimp only at H)
            have A28 := Aside0.mk A280
            clear A280
            by_cases c29 : (!(t682 == t686) || (!(t683 == t687) || (!(t684.toList == t688.toList)))) = true
            · rw [if_pos c29] at H
              exact absurd H (by simp)
            · rw [if_neg c29] at H
              have c29b0 : (!(t682 == t686) || (!(t683 == t687) || (!(t684.toList == t688.toList)))) = false := by simpa using c29
              clear c29
              by_cases c30 : t685 = t689
              · rw [if_pos c30] at H
                have c30b0 : (t685 == t689) = true := beq_iff_eq.mpr c30
                have c30b1 : (t685 != t689) = false := bne_eq_false_iff_eq.mpr c30
                clear c30
                have H' := Aside0.mk H
                clear H
                go_wp2_with (first | ((with_reducible refine gate_dst (N := 6) rfl ?_); refine box_event ?hg (N := 6) ?hd (cs := #[.int .i64 0, .int .i64 0, .string (⟨#[]⟩ : ByteArray)]) (t := 23) ?hr ?_; (case hd => rfl); (case hg => rfl); (case hr => first | (go_simp; done) | (go_simp; rfl)); intro gb672 hg w31 hbox hb; have BK672 := Aside0.mk (hbox); have GW672 := qz HB hg; have GE672 := qz HB hg; have NB669_672 := ql BK669 hg; have NB672_669 := qg BK669 hg; have NB670_672 := ql BK670 hg; have NB672_670 := qg BK670 hg; replace BK669 := qb BK669 hb; replace BK670 := qb BK670 hb; replace HB := qs HB hb; clear hb hbox hg) | ((with_reducible refine gate_dst (N := 7) rfl ?_); refine box_event ?hg (N := 7) ?hd (cs := #[.int .i64 0, .int .i64 0, .string (⟨#[]⟩ : ByteArray)]) (t := 23) ?hr ?_; (case hd => rfl); (case hg => rfl); (case hr => first | (go_simp; done) | (go_simp; rfl)); intro gb673 hg w32 hbox hb; have BK673 := Aside0.mk (hbox); have GW673 := qz HB hg; have GE673 := qz HB hg; have NB669_673 := ql BK669 hg; have NB673_669 := qg BK669 hg; have NB670_673 := ql BK670 hg; have NB673_670 := qg BK670 hg; have NB672_673 := ql BK672 hg; have NB673_672 := qg BK672 hg; replace BK669 := qb BK669 hb; replace BK670 := qb BK670 hb; replace BK672 := qb BK672 hb; replace HB := qs HB hb; clear hb hbox hg; have hnb33 := NB669_670.out; have hnc33 := NB670_669.out; have hnb34 := NB669_672.out; have hnc34 := NB672_669.out; have hnb35 := NB669_673.out; have hnc35 := NB673_669.out; obtain ⟨hcz36_0, hcz36_1, hcz36_2, hfz36_0, hfz36_1, hfz36_2⟩ := qc3 BK669; have hnb37 := NB670_672.out; have hnc37 := NB672_670.out; have hnb38 := NB670_673.out; have hnc38 := NB673_670.out; obtain ⟨hcz39_0, hcz39_1, hcz39_2, hfz39_0, hfz39_1, hfz39_2⟩ := qc3 BK670) | ((with_reducible refine gate_callee (f := 10) rfl ?_); refine qgo (some 32) rfl rfl Try.func10 #[.agg #[.int .i64 a0_0, .int .i64 a0_1, .string a0_2], .agg #[.int .i64 a1_0, .int .i64 a1_1, .string a1_2]] rfl ?_; (with_reducible refine (arith_Add.calls k1 a0_0 a0_1 a0_2 a1_0 a1_1 a1_2 t682 t683 t684 t685 _ A27.out).mono ?_); rintro e w40 ⟨rfl, hb⟩; refine ⟨_, rfl, ?_⟩; replace BK669 := qb BK669 hb; replace BK670 := qb BK670 hb; replace BK672 := qb BK672 hb; replace BK673 := qb BK673 hb; replace HB := qs HB hb; (try clear hb); (try clear hb2); (try clear hk); (try clear hi); (try clear A27); have hnb41 := NB672_673.out; have hnc41 := NB673_672.out; obtain ⟨hcz42_0, hcz42_1, hcz42_2, hfz42_0, hfz42_1, hfz42_2⟩ := qc3 BK672; obtain ⟨hcz43_0, hcz43_1, hcz43_2, hfz43_0, hfz43_1, hfz43_2⟩ := qc3 BK669; obtain ⟨hcz44_0, hcz44_1, hcz44_2, hfz44_0, hfz44_1, hfz44_2⟩ := qc3 BK670) | ((with_reducible refine gate_callee (f := 20) rfl ?_); refine qgo (some 38) rfl rfl Try.func20 #[.agg #[.int .i64 a0_0, .int .i64 a0_1, .string a0_2], .agg #[.int .i64 a1_0, .int .i64 a1_1, .string a1_2]] rfl ?_; (with_reducible refine (marqueeref02_Add.calls k1 a0_0 a0_1 a0_2 a1_0 a1_1 a1_2 t686 t687 t688 t689 _ A28.out).mono ?_); rintro e w45 ⟨rfl, hb⟩; refine ⟨_, rfl, ?_⟩; replace BK669 := qf BK669 hb; replace BK670 := qf BK670 hb; replace BK672 := Aside0.mk (blk_below (g := gb672) (o := .cells #[.int .i64 t682, .int .i64 t683, .string t684] 23 (0, 0)) (by (with_reducible repeat (first | refine blk_drewN ?_ _ | refine blk_drew ?_ | refine blk_alloc ?_ _)); refine blk_put (cs := #[.int .i64 t682, .int .i64 t683, .string (⟨#[]⟩ : ByteArray)]) ?_ 2 _ rfl; (with_reducible repeat (first | refine blk_drewN ?_ _ | refine blk_drew ?_ | refine blk_alloc ?_ _)); refine blk_put (cs := #[.int .i64 t682, .int .i64 0, .string (⟨#[]⟩ : ByteArray)]) ?_ 1 _ rfl; (with_reducible repeat (first | refine blk_drewN ?_ _ | refine blk_drew ?_ | refine blk_alloc ?_ _)); refine blk_put (cs := #[.int .i64 0, .int .i64 0, .string (⟨#[]⟩ : ByteArray)]) ?_ 0 _ rfl; (with_reducible repeat (first | refine blk_drewN ?_ _ | refine blk_drew ?_ | refine blk_alloc ?_ _)); exact BK672.out) hb); replace BK673 := qf BK673 hb; replace HB := qs HB hb; (try clear hb); (try clear hb2); (try clear hk); (try clear hi); (try clear A28); obtain ⟨hcz46_0, hcz46_1, hcz46_2, hfz46_0, hfz46_1, hfz46_2⟩ := qc3 BK673; obtain ⟨hcz47_0, hcz47_1, hcz47_2, hfz47_0, hfz47_1, hfz47_2⟩ := qc3 BK672))
                go_roundg k1
                case measure => have := HK1.out; omega
                case rel => exact ⟨(wrap64 (x5_1 + 1)), (by first | rfl | (simp; done) | (simp [*]; done)), H', ⟨by have := HK1.out; omega⟩, ⟨by (with_reducible repeat (first | refine blk_drewN ?_ _ | refine blk_drew ?_ | refine blk_alloc ?_ _)); refine blk_far ?_ NB669_673.out _; (with_reducible repeat (first | refine blk_drewN ?_ _ | refine blk_drew ?_ | refine blk_alloc ?_ _)); refine blk_far ?_ NB669_673.out _; (with_reducible repeat (first | refine blk_drewN ?_ _ | refine blk_drew ?_ | refine blk_alloc ?_ _)); refine blk_far ?_ NB669_673.out _; (with_reducible repeat (first | refine blk_drewN ?_ _ | refine blk_drew ?_ | refine blk_alloc ?_ _)); exact BK669.out⟩, ⟨by (with_reducible repeat (first | refine blk_drewN ?_ _ | refine blk_drew ?_ | refine blk_alloc ?_ _)); refine blk_far ?_ NB670_673.out _; (with_reducible repeat (first | refine blk_drewN ?_ _ | refine blk_drew ?_ | refine blk_alloc ?_ _)); refine blk_far ?_ NB670_673.out _; (with_reducible repeat (first | refine blk_drewN ?_ _ | refine blk_drew ?_ | refine blk_alloc ?_ _)); refine blk_far ?_ NB670_673.out _; (with_reducible repeat (first | refine blk_drewN ?_ _ | refine blk_drew ?_ | refine blk_alloc ?_ _)); exact BK670.out⟩, ⟨by repeat (first | (with_reducible first | exact HB.out | apply below_alloc | apply pw_below_drewN | apply below_drew1 | refine below_set ?_ GE669.out | refine below_set ?_ GE670.out | refine below_set ?_ GE672.out | refine below_set ?_ GE673.out) | exact HB.out)⟩⟩
              · rw [if_neg c30] at H
                exact absurd H (by simp)
          · rw [if_neg c26] at H
            have c26b0 : (x5_1 == 1) = false := beq_eq_false_iff_ne.mpr c26
            have c26b1 : (x5_1 != 1) = true := bne_iff_ne.mpr c26
            by_cases c48 : x5_1 = 2
            · rw [if_pos c48] at H
              have c48b0 : (x5_1 == 2) = true := beq_iff_eq.mpr c48
              have c48b1 : (x5_1 != 2) = false := bne_eq_false_iff_eq.mpr c48
              clear c48
              replace H := Option.bind_eq_some_iff.mp H
              obtain ⟨⟨t690, t691, t692, t693⟩, A490, H⟩ := H
              (try dsimp only at H)
              have A49 := Aside0.mk A490
              clear A490
              replace H := Option.bind_eq_some_iff.mp H
              obtain ⟨⟨t694, t695, t696, t697⟩, A500, H⟩ := H
              (try dsimp only at H)
              have A50 := Aside0.mk A500
              clear A500
              by_cases c51 : (!(t690 == t694) || (!(t691 == t695) || (!(t692.toList == t696.toList)))) = true
              · rw [if_pos c51] at H
                exact absurd H (by simp)
              · rw [if_neg c51] at H
                have c51b0 : (!(t690 == t694) || (!(t691 == t695) || (!(t692.toList == t696.toList)))) = false := by simpa using c51
                clear c51
                by_cases c52 : t693 = t697
                · rw [if_pos c52] at H
                  have c52b0 : (t693 == t697) = true := beq_iff_eq.mpr c52
                  have c52b1 : (t693 != t697) = false := bne_eq_false_iff_eq.mpr c52
                  clear c52
                  have H' := Aside0.mk H
                  clear H
                  go_wp2_with (first | ((with_reducible refine gate_dst (N := 6) rfl ?_); refine box_event ?hg (N := 6) ?hd (cs := #[.int .i64 0, .int .i64 0, .string (⟨#[]⟩ : ByteArray)]) (t := 23) ?hr ?_; (case hd => rfl); (case hg => rfl); (case hr => first | (go_simp; done) | (go_simp; rfl)); intro gb672 hg w53 hbox hb; have BK672 := Aside0.mk (hbox); have GW672 := qz HB hg; have GE672 := qz HB hg; have NB669_672 := ql BK669 hg; have NB672_669 := qg BK669 hg; have NB670_672 := ql BK670 hg; have NB672_670 := qg BK670 hg; replace BK669 := qb BK669 hb; replace BK670 := qb BK670 hb; replace HB := qs HB hb; clear hb hbox hg) | ((with_reducible refine gate_dst (N := 7) rfl ?_); refine box_event ?hg (N := 7) ?hd (cs := #[.int .i64 0, .int .i64 0, .string (⟨#[]⟩ : ByteArray)]) (t := 23) ?hr ?_; (case hd => rfl); (case hg => rfl); (case hr => first | (go_simp; done) | (go_simp; rfl)); intro gb673 hg w54 hbox hb; have BK673 := Aside0.mk (hbox); have GW673 := qz HB hg; have GE673 := qz HB hg; have NB669_673 := ql BK669 hg; have NB673_669 := qg BK669 hg; have NB670_673 := ql BK670 hg; have NB673_670 := qg BK670 hg; have NB672_673 := ql BK672 hg; have NB673_672 := qg BK672 hg; replace BK669 := qb BK669 hb; replace BK670 := qb BK670 hb; replace BK672 := qb BK672 hb; replace HB := qs HB hb; clear hb hbox hg; have hnb55 := NB669_670.out; have hnc55 := NB670_669.out; have hnb56 := NB669_672.out; have hnc56 := NB672_669.out; have hnb57 := NB669_673.out; have hnc57 := NB673_669.out; obtain ⟨hcz58_0, hcz58_1, hcz58_2, hfz58_0, hfz58_1, hfz58_2⟩ := qc3 BK669; have hnb59 := NB670_672.out; have hnc59 := NB672_670.out; have hnb60 := NB670_673.out; have hnc60 := NB673_670.out; obtain ⟨hcz61_0, hcz61_1, hcz61_2, hfz61_0, hfz61_1, hfz61_2⟩ := qc3 BK670) | ((with_reducible refine gate_callee (f := 11) rfl ?_); refine qgo (some 46) rfl rfl Try.func11 #[.agg #[.int .i64 a0_0, .int .i64 a0_1, .string a0_2], .agg #[.int .i64 a1_0, .int .i64 a1_1, .string a1_2]] rfl ?_; (with_reducible refine (arith_Sub.calls k1 a0_0 a0_1 a0_2 a1_0 a1_1 a1_2 t690 t691 t692 t693 _ A49.out).mono ?_); rintro e w62 ⟨rfl, hb⟩; refine ⟨_, rfl, ?_⟩; replace BK669 := qb BK669 hb; replace BK670 := qb BK670 hb; replace BK672 := qb BK672 hb; replace BK673 := qb BK673 hb; replace HB := qs HB hb; (try clear hb); (try clear hb2); (try clear hk); (try clear hi); (try clear A49); have hnb63 := NB672_673.out; have hnc63 := NB673_672.out; obtain ⟨hcz64_0, hcz64_1, hcz64_2, hfz64_0, hfz64_1, hfz64_2⟩ := qc3 BK672; obtain ⟨hcz65_0, hcz65_1, hcz65_2, hfz65_0, hfz65_1, hfz65_2⟩ := qc3 BK669; obtain ⟨hcz66_0, hcz66_1, hcz66_2, hfz66_0, hfz66_1, hfz66_2⟩ := qc3 BK670) | ((with_reducible refine gate_callee (f := 21) rfl ?_); refine qgo (some 52) rfl rfl Try.func21 #[.agg #[.int .i64 a0_0, .int .i64 a0_1, .string a0_2], .agg #[.int .i64 a1_0, .int .i64 a1_1, .string a1_2]] rfl ?_; (with_reducible refine (marqueeref02_Sub.calls k1 a0_0 a0_1 a0_2 a1_0 a1_1 a1_2 t694 t695 t696 t697 _ A50.out).mono ?_); rintro e w67 ⟨rfl, hb⟩; refine ⟨_, rfl, ?_⟩; replace BK669 := qf BK669 hb; replace BK670 := qf BK670 hb; replace BK672 := Aside0.mk (blk_below (g := gb672) (o := .cells #[.int .i64 t690, .int .i64 t691, .string t692] 23 (0, 0)) (by (with_reducible repeat (first | refine blk_drewN ?_ _ | refine blk_drew ?_ | refine blk_alloc ?_ _)); refine blk_put (cs := #[.int .i64 t690, .int .i64 t691, .string (⟨#[]⟩ : ByteArray)]) ?_ 2 _ rfl; (with_reducible repeat (first | refine blk_drewN ?_ _ | refine blk_drew ?_ | refine blk_alloc ?_ _)); refine blk_put (cs := #[.int .i64 t690, .int .i64 0, .string (⟨#[]⟩ : ByteArray)]) ?_ 1 _ rfl; (with_reducible repeat (first | refine blk_drewN ?_ _ | refine blk_drew ?_ | refine blk_alloc ?_ _)); refine blk_put (cs := #[.int .i64 0, .int .i64 0, .string (⟨#[]⟩ : ByteArray)]) ?_ 0 _ rfl; (with_reducible repeat (first | refine blk_drewN ?_ _ | refine blk_drew ?_ | refine blk_alloc ?_ _)); exact BK672.out) hb); replace BK673 := qf BK673 hb; replace HB := qs HB hb; (try clear hb); (try clear hb2); (try clear hk); (try clear hi); (try clear A50); obtain ⟨hcz68_0, hcz68_1, hcz68_2, hfz68_0, hfz68_1, hfz68_2⟩ := qc3 BK673; obtain ⟨hcz69_0, hcz69_1, hcz69_2, hfz69_0, hfz69_1, hfz69_2⟩ := qc3 BK672))
                  go_roundg k1
                  case measure => have := HK1.out; omega
                  case rel => exact ⟨(wrap64 (x5_1 + 1)), (by first | rfl | (simp; done) | (simp [*]; done)), H', ⟨by have := HK1.out; omega⟩, ⟨by (with_reducible repeat (first | refine blk_drewN ?_ _ | refine blk_drew ?_ | refine blk_alloc ?_ _)); refine blk_far ?_ NB669_673.out _; (with_reducible repeat (first | refine blk_drewN ?_ _ | refine blk_drew ?_ | refine blk_alloc ?_ _)); refine blk_far ?_ NB669_673.out _; (with_reducible repeat (first | refine blk_drewN ?_ _ | refine blk_drew ?_ | refine blk_alloc ?_ _)); refine blk_far ?_ NB669_673.out _; (with_reducible repeat (first | refine blk_drewN ?_ _ | refine blk_drew ?_ | refine blk_alloc ?_ _)); exact BK669.out⟩, ⟨by (with_reducible repeat (first | refine blk_drewN ?_ _ | refine blk_drew ?_ | refine blk_alloc ?_ _)); refine blk_far ?_ NB670_673.out _; (with_reducible repeat (first | refine blk_drewN ?_ _ | refine blk_drew ?_ | refine blk_alloc ?_ _)); refine blk_far ?_ NB670_673.out _; (with_reducible repeat (first | refine blk_drewN ?_ _ | refine blk_drew ?_ | refine blk_alloc ?_ _)); refine blk_far ?_ NB670_673.out _; (with_reducible repeat (first | refine blk_drewN ?_ _ | refine blk_drew ?_ | refine blk_alloc ?_ _)); exact BK670.out⟩, ⟨by repeat (first | (with_reducible first | exact HB.out | apply below_alloc | apply pw_below_drewN | apply below_drew1 | refine below_set ?_ GE669.out | refine below_set ?_ GE670.out | refine below_set ?_ GE672.out | refine below_set ?_ GE673.out) | exact HB.out)⟩⟩
                · rw [if_neg c52] at H
                  exact absurd H (by simp)
            · rw [if_neg c48] at H
              have c48b0 : (x5_1 == 2) = false := beq_eq_false_iff_ne.mpr c48
              have c48b1 : (x5_1 != 2) = true := bne_iff_ne.mpr c48
              by_cases c70 : x5_1 = 3
              · rw [if_pos c70] at H
                have c70b0 : (x5_1 == 3) = true := beq_iff_eq.mpr c70
                have c70b1 : (x5_1 != 3) = false := bne_eq_false_iff_eq.mpr c70
                clear c70
                replace H := Option.bind_eq_some_iff.mp H
                obtain ⟨⟨t698, t699, t700, t701⟩, A710, H⟩ := H
                (try dsimp only at H)
                have A71 := Aside0.mk A710
                clear A710
                replace H := Option.bind_eq_some_iff.mp H
                obtain ⟨⟨t702, t703, t704, t705⟩, A720, H⟩ := H
                (try dsimp only at H)
                have A72 := Aside0.mk A720
                clear A720
                by_cases c73 : (!(t698 == t702) || (!(t699 == t703) || (!(t700.toList == t704.toList)))) = true
                · rw [if_pos c73] at H
                  exact absurd H (by simp)
                · rw [if_neg c73] at H
                  have c73b0 : (!(t698 == t702) || (!(t699 == t703) || (!(t700.toList == t704.toList)))) = false := by simpa using c73
                  clear c73
                  by_cases c74 : t701 = t705
                  · rw [if_pos c74] at H
                    have c74b0 : (t701 == t705) = true := beq_iff_eq.mpr c74
                    have c74b1 : (t701 != t705) = false := bne_eq_false_iff_eq.mpr c74
                    clear c74
                    have H' := Aside0.mk H
                    clear H
                    go_wp2_with (first | ((with_reducible refine gate_dst (N := 6) rfl ?_); refine box_event ?hg (N := 6) ?hd (cs := #[.int .i64 0, .int .i64 0, .string (⟨#[]⟩ : ByteArray)]) (t := 23) ?hr ?_; (case hd => rfl); (case hg => rfl); (case hr => first | (go_simp; done) | (go_simp; rfl)); intro gb672 hg w75 hbox hb; have BK672 := Aside0.mk (hbox); have GW672 := qz HB hg; have GE672 := qz HB hg; have NB669_672 := ql BK669 hg; have NB672_669 := qg BK669 hg; have NB670_672 := ql BK670 hg; have NB672_670 := qg BK670 hg; replace BK669 := qb BK669 hb; replace BK670 := qb BK670 hb; replace HB := qs HB hb; clear hb hbox hg) | ((with_reducible refine gate_dst (N := 7) rfl ?_); refine box_event ?hg (N := 7) ?hd (cs := #[.int .i64 0, .int .i64 0, .string (⟨#[]⟩ : ByteArray)]) (t := 23) ?hr ?_; (case hd => rfl); (case hg => rfl); (case hr => first | (go_simp; done) | (go_simp; rfl)); intro gb673 hg w76 hbox hb; have BK673 := Aside0.mk (hbox); have GW673 := qz HB hg; have GE673 := qz HB hg; have NB669_673 := ql BK669 hg; have NB673_669 := qg BK669 hg; have NB670_673 := ql BK670 hg; have NB673_670 := qg BK670 hg; have NB672_673 := ql BK672 hg; have NB673_672 := qg BK672 hg; replace BK669 := qb BK669 hb; replace BK670 := qb BK670 hb; replace BK672 := qb BK672 hb; replace HB := qs HB hb; clear hb hbox hg; have hnb77 := NB669_670.out; have hnc77 := NB670_669.out; have hnb78 := NB669_672.out; have hnc78 := NB672_669.out; have hnb79 := NB669_673.out; have hnc79 := NB673_669.out; obtain ⟨hcz80_0, hcz80_1, hcz80_2, hfz80_0, hfz80_1, hfz80_2⟩ := qc3 BK669; have hnb81 := NB670_672.out; have hnc81 := NB672_670.out; have hnb82 := NB670_673.out; have hnc82 := NB673_670.out; obtain ⟨hcz83_0, hcz83_1, hcz83_2, hfz83_0, hfz83_1, hfz83_2⟩ := qc3 BK670) | ((with_reducible refine gate_callee (f := 8) rfl ?_); refine qgo (some 60) rfl rfl Try.func8 #[.agg #[.int .i64 a0_0, .int .i64 a0_1, .string a0_2], .agg #[.int .i64 a1_0, .int .i64 a1_1, .string a1_2]] rfl ?_; (with_reducible refine (arith_Mul.calls k1 a0_0 a0_1 a0_2 a1_0 a1_1 a1_2 t698 t699 t700 t701 _ A71.out).mono ?_); rintro e w84 ⟨rfl, hb⟩; refine ⟨_, rfl, ?_⟩; replace BK669 := qb BK669 hb; replace BK670 := qb BK670 hb; replace BK672 := qb BK672 hb; replace BK673 := qb BK673 hb; replace HB := qs HB hb; (try clear hb); (try clear hb2); (try clear hk); (try clear hi); (try clear A71); have hnb85 := NB672_673.out; have hnc85 := NB673_672.out; obtain ⟨hcz86_0, hcz86_1, hcz86_2, hfz86_0, hfz86_1, hfz86_2⟩ := qc3 BK672; obtain ⟨hcz87_0, hcz87_1, hcz87_2, hfz87_0, hfz87_1, hfz87_2⟩ := qc3 BK669; obtain ⟨hcz88_0, hcz88_1, hcz88_2, hfz88_0, hfz88_1, hfz88_2⟩ := qc3 BK670) | ((with_reducible refine gate_callee (f := 22) rfl ?_); refine qgo (some 66) rfl rfl Try.func22 #[.agg #[.int .i64 a0_0, .int .i64 a0_1, .string a0_2], .agg #[.int .i64 a1_0, .int .i64 a1_1, .string a1_2]] rfl ?_; (with_reducible refine (marqueeref02_Mul.calls k1 a0_0 a0_1 a0_2 a1_0 a1_1 a1_2 t702 t703 t704 t705 _ A72.out).mono ?_); rintro e w89 ⟨rfl, hb⟩; refine ⟨_, rfl, ?_⟩; replace BK669 := qf BK669 hb; replace BK670 := qf BK670 hb; replace BK672 := Aside0.mk (blk_below (g := gb672) (o := .cells #[.int .i64 t698, .int .i64 t699, .string t700] 23 (0, 0)) (by (with_reducible repeat (first | refine blk_drewN ?_ _ | refine blk_drew ?_ | refine blk_alloc ?_ _)); refine blk_put (cs := #[.int .i64 t698, .int .i64 t699, .string (⟨#[]⟩ : ByteArray)]) ?_ 2 _ rfl; (with_reducible repeat (first | refine blk_drewN ?_ _ | refine blk_drew ?_ | refine blk_alloc ?_ _)); refine blk_put (cs := #[.int .i64 t698, .int .i64 0, .string (⟨#[]⟩ : ByteArray)]) ?_ 1 _ rfl; (with_reducible repeat (first | refine blk_drewN ?_ _ | refine blk_drew ?_ | refine blk_alloc ?_ _)); refine blk_put (cs := #[.int .i64 0, .int .i64 0, .string (⟨#[]⟩ : ByteArray)]) ?_ 0 _ rfl; (with_reducible repeat (first | refine blk_drewN ?_ _ | refine blk_drew ?_ | refine blk_alloc ?_ _)); exact BK672.out) hb); replace BK673 := qf BK673 hb; replace HB := qs HB hb; (try clear hb); (try clear hb2); (try clear hk); (try clear hi); (try clear A72); obtain ⟨hcz90_0, hcz90_1, hcz90_2, hfz90_0, hfz90_1, hfz90_2⟩ := qc3 BK673; obtain ⟨hcz91_0, hcz91_1, hcz91_2, hfz91_0, hfz91_1, hfz91_2⟩ := qc3 BK672))
                    go_roundg k1
                    case measure => have := HK1.out; omega
                    case rel => exact ⟨(wrap64 (x5_1 + 1)), (by first | rfl | (simp; done) | (simp [*]; done)), H', ⟨by have := HK1.out; omega⟩, ⟨by (with_reducible repeat (first | refine blk_drewN ?_ _ | refine blk_drew ?_ | refine blk_alloc ?_ _)); refine blk_far ?_ NB669_673.out _; (with_reducible repeat (first | refine blk_drewN ?_ _ | refine blk_drew ?_ | refine blk_alloc ?_ _)); refine blk_far ?_ NB669_673.out _; (with_reducible repeat (first | refine blk_drewN ?_ _ | refine blk_drew ?_ | refine blk_alloc ?_ _)); refine blk_far ?_ NB669_673.out _; (with_reducible repeat (first | refine blk_drewN ?_ _ | refine blk_drew ?_ | refine blk_alloc ?_ _)); exact BK669.out⟩, ⟨by (with_reducible repeat (first | refine blk_drewN ?_ _ | refine blk_drew ?_ | refine blk_alloc ?_ _)); refine blk_far ?_ NB670_673.out _; (with_reducible repeat (first | refine blk_drewN ?_ _ | refine blk_drew ?_ | refine blk_alloc ?_ _)); refine blk_far ?_ NB670_673.out _; (with_reducible repeat (first | refine blk_drewN ?_ _ | refine blk_drew ?_ | refine blk_alloc ?_ _)); refine blk_far ?_ NB670_673.out _; (with_reducible repeat (first | refine blk_drewN ?_ _ | refine blk_drew ?_ | refine blk_alloc ?_ _)); exact BK670.out⟩, ⟨by repeat (first | (with_reducible first | exact HB.out | apply below_alloc | apply pw_below_drewN | apply below_drew1 | refine below_set ?_ GE669.out | refine below_set ?_ GE670.out | refine below_set ?_ GE672.out | refine below_set ?_ GE673.out) | exact HB.out)⟩⟩
                  · rw [if_neg c74] at H
                    exact absurd H (by simp)
              · rw [if_neg c70] at H
                have c70b0 : (x5_1 == 3) = false := beq_eq_false_iff_ne.mpr c70
                have c70b1 : (x5_1 != 3) = true := bne_iff_ne.mpr c70
                by_cases c92 : x5_1 = 4
                · rw [if_pos c92] at H
                  have c92b0 : (x5_1 == 4) = true := beq_iff_eq.mpr c92
                  have c92b1 : (x5_1 != 4) = false := bne_eq_false_iff_eq.mpr c92
                  clear c92
                  replace H := Option.bind_eq_some_iff.mp H
                  obtain ⟨⟨t706, t707, t708, t709⟩, A930, H⟩ := H
                  (try dsimp only at H)
                  have A93 := Aside0.mk A930
                  clear A930
                  replace H := Option.bind_eq_some_iff.mp H
                  obtain ⟨⟨t710, t711, t712, t713⟩, A940, H⟩ := H
                  (try dsimp only at H)
                  have A94 := Aside0.mk A940
                  clear A940
                  by_cases c95 : (!(t706 == t710) || (!(t707 == t711) || (!(t708.toList == t712.toList)))) = true
                  · rw [if_pos c95] at H
                    exact absurd H (by simp)
                  · rw [if_neg c95] at H
                    have c95b0 : (!(t706 == t710) || (!(t707 == t711) || (!(t708.toList == t712.toList)))) = false := by simpa using c95
                    clear c95
                    by_cases c96 : t709 = t713
                    · rw [if_pos c96] at H
                      have c96b0 : (t709 == t713) = true := beq_iff_eq.mpr c96
                      have c96b1 : (t709 != t713) = false := bne_eq_false_iff_eq.mpr c96
                      clear c96
                      have H' := Aside0.mk H
                      clear H
                      go_wp2_with (first | ((with_reducible refine gate_dst (N := 6) rfl ?_); refine box_event ?hg (N := 6) ?hd (cs := #[.int .i64 0, .int .i64 0, .string (⟨#[]⟩ : ByteArray)]) (t := 23) ?hr ?_; (case hd => rfl); (case hg => rfl); (case hr => first | (go_simp; done) | (go_simp; rfl)); intro gb672 hg w97 hbox hb; have BK672 := Aside0.mk (hbox); have GW672 := qz HB hg; have GE672 := qz HB hg; have NB669_672 := ql BK669 hg; have NB672_669 := qg BK669 hg; have NB670_672 := ql BK670 hg; have NB672_670 := qg BK670 hg; replace BK669 := qb BK669 hb; replace BK670 := qb BK670 hb; replace HB := qs HB hb; clear hb hbox hg) | ((with_reducible refine gate_dst (N := 7) rfl ?_); refine box_event ?hg (N := 7) ?hd (cs := #[.int .i64 0, .int .i64 0, .string (⟨#[]⟩ : ByteArray)]) (t := 23) ?hr ?_; (case hd => rfl); (case hg => rfl); (case hr => first | (go_simp; done) | (go_simp; rfl)); intro gb673 hg w98 hbox hb; have BK673 := Aside0.mk (hbox); have GW673 := qz HB hg; have GE673 := qz HB hg; have NB669_673 := ql BK669 hg; have NB673_669 := qg BK669 hg; have NB670_673 := ql BK670 hg; have NB673_670 := qg BK670 hg; have NB672_673 := ql BK672 hg; have NB673_672 := qg BK672 hg; replace BK669 := qb BK669 hb; replace BK670 := qb BK670 hb; replace BK672 := qb BK672 hb; replace HB := qs HB hb; clear hb hbox hg; have hnb99 := NB669_670.out; have hnc99 := NB670_669.out; have hnb100 := NB669_672.out; have hnc100 := NB672_669.out; have hnb101 := NB669_673.out; have hnc101 := NB673_669.out; obtain ⟨hcz102_0, hcz102_1, hcz102_2, hfz102_0, hfz102_1, hfz102_2⟩ := qc3 BK669; have hnb103 := NB670_672.out; have hnc103 := NB672_670.out; have hnb104 := NB670_673.out; have hnc104 := NB673_670.out; obtain ⟨hcz105_0, hcz105_1, hcz105_2, hfz105_0, hfz105_1, hfz105_2⟩ := qc3 BK670) | ((with_reducible refine gate_callee (f := 9) rfl ?_); refine qgo (some 74) rfl rfl Try.func9 #[.agg #[.int .i64 a0_0, .int .i64 a0_1, .string a0_2], .agg #[.int .i64 a1_0, .int .i64 a1_1, .string a1_2]] rfl ?_; (with_reducible refine (arith_Div.calls k1 a0_0 a0_1 a0_2 a1_0 a1_1 a1_2 t706 t707 t708 t709 _ A93.out).mono ?_); rintro e w106 ⟨rfl, hb⟩; refine ⟨_, rfl, ?_⟩; replace BK669 := qb BK669 hb; replace BK670 := qb BK670 hb; replace BK672 := qb BK672 hb; replace BK673 := qb BK673 hb; replace HB := qs HB hb; (try clear hb); (try clear hb2); (try clear hk); (try clear hi); (try clear A93); have hnb107 := NB672_673.out; have hnc107 := NB673_672.out; obtain ⟨hcz108_0, hcz108_1, hcz108_2, hfz108_0, hfz108_1, hfz108_2⟩ := qc3 BK672; obtain ⟨hcz109_0, hcz109_1, hcz109_2, hfz109_0, hfz109_1, hfz109_2⟩ := qc3 BK669; obtain ⟨hcz110_0, hcz110_1, hcz110_2, hfz110_0, hfz110_1, hfz110_2⟩ := qc3 BK670) | ((with_reducible refine gate_callee (f := 23) rfl ?_); refine qgo (some 80) rfl rfl Try.func23 #[.agg #[.int .i64 a0_0, .int .i64 a0_1, .string a0_2], .agg #[.int .i64 a1_0, .int .i64 a1_1, .string a1_2]] rfl ?_; (with_reducible refine (marqueeref02_Div.calls k1 a0_0 a0_1 a0_2 a1_0 a1_1 a1_2 t710 t711 t712 t713 _ A94.out).mono ?_); rintro e w111 ⟨rfl, hb⟩; refine ⟨_, rfl, ?_⟩; replace BK669 := qf BK669 hb; replace BK670 := qf BK670 hb; replace BK672 := Aside0.mk (blk_below (g := gb672) (o := .cells #[.int .i64 t706, .int .i64 t707, .string t708] 23 (0, 0)) (by (with_reducible repeat (first | refine blk_drewN ?_ _ | refine blk_drew ?_ | refine blk_alloc ?_ _)); refine blk_put (cs := #[.int .i64 t706, .int .i64 t707, .string (⟨#[]⟩ : ByteArray)]) ?_ 2 _ rfl; (with_reducible repeat (first | refine blk_drewN ?_ _ | refine blk_drew ?_ | refine blk_alloc ?_ _)); refine blk_put (cs := #[.int .i64 t706, .int .i64 0, .string (⟨#[]⟩ : ByteArray)]) ?_ 1 _ rfl; (with_reducible repeat (first | refine blk_drewN ?_ _ | refine blk_drew ?_ | refine blk_alloc ?_ _)); refine blk_put (cs := #[.int .i64 0, .int .i64 0, .string (⟨#[]⟩ : ByteArray)]) ?_ 0 _ rfl; (with_reducible repeat (first | refine blk_drewN ?_ _ | refine blk_drew ?_ | refine blk_alloc ?_ _)); exact BK672.out) hb); replace BK673 := qf BK673 hb; replace HB := qs HB hb; (try clear hb); (try clear hb2); (try clear hk); (try clear hi); (try clear A94); obtain ⟨hcz112_0, hcz112_1, hcz112_2, hfz112_0, hfz112_1, hfz112_2⟩ := qc3 BK673; obtain ⟨hcz113_0, hcz113_1, hcz113_2, hfz113_0, hfz113_1, hfz113_2⟩ := qc3 BK672))
                      go_roundg k1
                      case measure => have := HK1.out; omega
                      case rel => exact ⟨(wrap64 (x5_1 + 1)), (by first | rfl | (simp; done) | (simp [*]; done)), H', ⟨by have := HK1.out; omega⟩, ⟨by (with_reducible repeat (first | refine blk_drewN ?_ _ | refine blk_drew ?_ | refine blk_alloc ?_ _)); refine blk_far ?_ NB669_673.out _; (with_reducible repeat (first | refine blk_drewN ?_ _ | refine blk_drew ?_ | refine blk_alloc ?_ _)); refine blk_far ?_ NB669_673.out _; (with_reducible repeat (first | refine blk_drewN ?_ _ | refine blk_drew ?_ | refine blk_alloc ?_ _)); refine blk_far ?_ NB669_673.out _; (with_reducible repeat (first | refine blk_drewN ?_ _ | refine blk_drew ?_ | refine blk_alloc ?_ _)); exact BK669.out⟩, ⟨by (with_reducible repeat (first | refine blk_drewN ?_ _ | refine blk_drew ?_ | refine blk_alloc ?_ _)); refine blk_far ?_ NB670_673.out _; (with_reducible repeat (first | refine blk_drewN ?_ _ | refine blk_drew ?_ | refine blk_alloc ?_ _)); refine blk_far ?_ NB670_673.out _; (with_reducible repeat (first | refine blk_drewN ?_ _ | refine blk_drew ?_ | refine blk_alloc ?_ _)); refine blk_far ?_ NB670_673.out _; (with_reducible repeat (first | refine blk_drewN ?_ _ | refine blk_drew ?_ | refine blk_alloc ?_ _)); exact BK670.out⟩, ⟨by repeat (first | (with_reducible first | exact HB.out | apply below_alloc | apply pw_below_drewN | apply below_drew1 | refine below_set ?_ GE669.out | refine below_set ?_ GE670.out | refine below_set ?_ GE672.out | refine below_set ?_ GE673.out) | exact HB.out)⟩⟩
                    · rw [if_neg c96] at H
                      exact absurd H (by simp)
                · rw [if_neg c92] at H
                  have c92b0 : (x5_1 == 4) = false := beq_eq_false_iff_ne.mpr c92
                  have c92b1 : (x5_1 != 4) = true := bne_iff_ne.mpr c92
                  by_cases c114 : x5_1 = 5
                  · rw [if_pos c114] at H
                    have c114b0 : (x5_1 == 5) = true := beq_iff_eq.mpr c114
                    have c114b1 : (x5_1 != 5) = false := bne_eq_false_iff_eq.mpr c114
                    clear c114
                    replace H := Option.bind_eq_some_iff.mp H
                    obtain ⟨⟨t714, t715, t716, t717⟩, A1150, H⟩ := H
                    (try dsimp only at H)
                    have A115 := Aside0.mk A1150
                    clear A1150
                    replace H := Option.bind_eq_some_iff.mp H
                    obtain ⟨⟨t718, t719, t720, t721⟩, A1160, H⟩ := H
                    (try dsimp only at H)
                    have A116 := Aside0.mk A1160
                    clear A1160
                    by_cases c117 : (!(t714 == t718) || (!(t715 == t719) || (!(t716.toList == t720.toList)))) = true
                    · rw [if_pos c117] at H
                      exact absurd H (by simp)
                    · rw [if_neg c117] at H
                      have c117b0 : (!(t714 == t718) || (!(t715 == t719) || (!(t716.toList == t720.toList)))) = false := by simpa using c117
                      clear c117
                      by_cases c118 : t717 = t721
                      · rw [if_pos c118] at H
                        have c118b0 : (t717 == t721) = true := beq_iff_eq.mpr c118
                        have c118b1 : (t717 != t721) = false := bne_eq_false_iff_eq.mpr c118
                        clear c118
                        have H' := Aside0.mk H
                        clear H
                        go_wp2_with (first | ((with_reducible refine gate_dst (N := 6) rfl ?_); refine box_event ?hg (N := 6) ?hd (cs := #[.int .i64 0, .int .i64 0, .string (⟨#[]⟩ : ByteArray)]) (t := 23) ?hr ?_; (case hd => rfl); (case hg => rfl); (case hr => first | (go_simp; done) | (go_simp; rfl)); intro gb672 hg w119 hbox hb; have BK672 := Aside0.mk (hbox); have GW672 := qz HB hg; have GE672 := qz HB hg; have NB669_672 := ql BK669 hg; have NB672_669 := qg BK669 hg; have NB670_672 := ql BK670 hg; have NB672_670 := qg BK670 hg; replace BK669 := qb BK669 hb; replace BK670 := qb BK670 hb; replace HB := qs HB hb; clear hb hbox hg) | ((with_reducible refine gate_dst (N := 7) rfl ?_); refine box_event ?hg (N := 7) ?hd (cs := #[.int .i64 0, .int .i64 0, .string (⟨#[]⟩ : ByteArray)]) (t := 23) ?hr ?_; (case hd => rfl); (case hg => rfl); (case hr => first | (go_simp; done) | (go_simp; rfl)); intro gb673 hg w120 hbox hb; have BK673 := Aside0.mk (hbox); have GW673 := qz HB hg; have GE673 := qz HB hg; have NB669_673 := ql BK669 hg; have NB673_669 := qg BK669 hg; have NB670_673 := ql BK670 hg; have NB673_670 := qg BK670 hg; have NB672_673 := ql BK672 hg; have NB673_672 := qg BK672 hg; replace BK669 := qb BK669 hb; replace BK670 := qb BK670 hb; replace BK672 := qb BK672 hb; replace HB := qs HB hb; clear hb hbox hg; have hnb121 := NB669_670.out; have hnc121 := NB670_669.out; have hnb122 := NB669_672.out; have hnc122 := NB672_669.out; have hnb123 := NB669_673.out; have hnc123 := NB673_669.out; obtain ⟨hcz124_0, hcz124_1, hcz124_2, hfz124_0, hfz124_1, hfz124_2⟩ := qc3 BK669; have hnb125 := NB670_672.out; have hnc125 := NB672_670.out; have hnb126 := NB670_673.out; have hnc126 := NB673_670.out; obtain ⟨hcz127_0, hcz127_1, hcz127_2, hfz127_0, hfz127_1, hfz127_2⟩ := qc3 BK670) | ((with_reducible refine gate_callee (f := 14) rfl ?_); refine qgo (some 88) rfl rfl Try.func14 #[.agg #[.int .i64 a0_0, .int .i64 a0_1, .string a0_2], .agg #[.int .i64 a1_0, .int .i64 a1_1, .string a1_2]] rfl ?_; (with_reducible refine (arith_Mod.calls k1 a0_0 a0_1 a0_2 a1_0 a1_1 a1_2 t714 t715 t716 t717 _ A115.out).mono ?_); rintro e w128 ⟨rfl, hb⟩; refine ⟨_, rfl, ?_⟩; replace BK669 := qb BK669 hb; replace BK670 := qb BK670 hb; replace BK672 := qb BK672 hb; replace BK673 := qb BK673 hb; replace HB := qs HB hb; (try clear hb); (try clear hb2); (try clear hk); (try clear hi); (try clear A115); have hnb129 := NB672_673.out; have hnc129 := NB673_672.out; obtain ⟨hcz130_0, hcz130_1, hcz130_2, hfz130_0, hfz130_1, hfz130_2⟩ := qc3 BK672; obtain ⟨hcz131_0, hcz131_1, hcz131_2, hfz131_0, hfz131_1, hfz131_2⟩ := qc3 BK669; obtain ⟨hcz132_0, hcz132_1, hcz132_2, hfz132_0, hfz132_1, hfz132_2⟩ := qc3 BK670) | ((with_reducible refine gate_callee (f := 24) rfl ?_); refine qgo (some 94) rfl rfl Try.func24 #[.agg #[.int .i64 a0_0, .int .i64 a0_1, .string a0_2], .agg #[.int .i64 a1_0, .int .i64 a1_1, .string a1_2]] rfl ?_; (with_reducible refine (marqueeref02_Mod.calls k1 a0_0 a0_1 a0_2 a1_0 a1_1 a1_2 t718 t719 t720 t721 _ A116.out).mono ?_); rintro e w133 ⟨rfl, hb⟩; refine ⟨_, rfl, ?_⟩; replace BK669 := qf BK669 hb; replace BK670 := qf BK670 hb; replace BK672 := Aside0.mk (blk_below (g := gb672) (o := .cells #[.int .i64 t714, .int .i64 t715, .string t716] 23 (0, 0)) (by (with_reducible repeat (first | refine blk_drewN ?_ _ | refine blk_drew ?_ | refine blk_alloc ?_ _)); refine blk_put (cs := #[.int .i64 t714, .int .i64 t715, .string (⟨#[]⟩ : ByteArray)]) ?_ 2 _ rfl; (with_reducible repeat (first | refine blk_drewN ?_ _ | refine blk_drew ?_ | refine blk_alloc ?_ _)); refine blk_put (cs := #[.int .i64 t714, .int .i64 0, .string (⟨#[]⟩ : ByteArray)]) ?_ 1 _ rfl; (with_reducible repeat (first | refine blk_drewN ?_ _ | refine blk_drew ?_ | refine blk_alloc ?_ _)); refine blk_put (cs := #[.int .i64 0, .int .i64 0, .string (⟨#[]⟩ : ByteArray)]) ?_ 0 _ rfl; (with_reducible repeat (first | refine blk_drewN ?_ _ | refine blk_drew ?_ | refine blk_alloc ?_ _)); exact BK672.out) hb); replace BK673 := qf BK673 hb; replace HB := qs HB hb; (try clear hb); (try clear hb2); (try clear hk); (try clear hi); (try clear A116); obtain ⟨hcz134_0, hcz134_1, hcz134_2, hfz134_0, hfz134_1, hfz134_2⟩ := qc3 BK673; obtain ⟨hcz135_0, hcz135_1, hcz135_2, hfz135_0, hfz135_1, hfz135_2⟩ := qc3 BK672))
                        go_roundg k1
                        case measure => have := HK1.out; omega
                        case rel => exact ⟨(wrap64 (x5_1 + 1)), (by first | rfl | (simp; done) | (simp [*]; done)), H', ⟨by have := HK1.out; omega⟩, ⟨by (with_reducible repeat (first | refine blk_drewN ?_ _ | refine blk_drew ?_ | refine blk_alloc ?_ _)); refine blk_far ?_ NB669_673.out _; (with_reducible repeat (first | refine blk_drewN ?_ _ | refine blk_drew ?_ | refine blk_alloc ?_ _)); refine blk_far ?_ NB669_673.out _; (with_reducible repeat (first | refine blk_drewN ?_ _ | refine blk_drew ?_ | refine blk_alloc ?_ _)); refine blk_far ?_ NB669_673.out _; (with_reducible repeat (first | refine blk_drewN ?_ _ | refine blk_drew ?_ | refine blk_alloc ?_ _)); exact BK669.out⟩, ⟨by (with_reducible repeat (first | refine blk_drewN ?_ _ | refine blk_drew ?_ | refine blk_alloc ?_ _)); refine blk_far ?_ NB670_673.out _; (with_reducible repeat (first | refine blk_drewN ?_ _ | refine blk_drew ?_ | refine blk_alloc ?_ _)); refine blk_far ?_ NB670_673.out _; (with_reducible repeat (first | refine blk_drewN ?_ _ | refine blk_drew ?_ | refine blk_alloc ?_ _)); refine blk_far ?_ NB670_673.out _; (with_reducible repeat (first | refine blk_drewN ?_ _ | refine blk_drew ?_ | refine blk_alloc ?_ _)); exact BK670.out⟩, ⟨by repeat (first | (with_reducible first | exact HB.out | apply below_alloc | apply pw_below_drewN | apply below_drew1 | refine below_set ?_ GE669.out | refine below_set ?_ GE670.out | refine below_set ?_ GE672.out | refine below_set ?_ GE673.out) | exact HB.out)⟩⟩
                      · rw [if_neg c118] at H
                        exact absurd H (by simp)
                  · rw [if_neg c114] at H
                    have c114b0 : (x5_1 == 5) = false := beq_eq_false_iff_ne.mpr c114
                    have c114b1 : (x5_1 != 5) = true := bne_iff_ne.mpr c114
                    by_cases c136 : x5_1 = 6
                    · rw [if_pos c136] at H
                      have c136b0 : (x5_1 == 6) = true := beq_iff_eq.mpr c136
                      have c136b1 : (x5_1 != 6) = false := bne_eq_false_iff_eq.mpr c136
                      clear c136
                      replace H := Option.bind_eq_some_iff.mp H
                      obtain ⟨⟨t722, t723, t724, t725⟩, A1370, H⟩ := H
                      (try dsimp only at H)
                      have A137 := Aside0.mk A1370
                      clear A1370
                      replace H := Option.bind_eq_some_iff.mp H
                      obtain ⟨⟨t726, t727, t728, t729⟩, A1380, H⟩ := H
                      (try dsimp only at H)
                      have A138 := Aside0.mk A1380
                      clear A1380
                      by_cases c139 : (!(t722 == t726) || (!(t723 == t727) || (!(t724.toList == t728.toList)))) = true
                      · rw [if_pos c139] at H
                        exact absurd H (by simp)
                      · rw [if_neg c139] at H
                        have c139b0 : (!(t722 == t726) || (!(t723 == t727) || (!(t724.toList == t728.toList)))) = false := by simpa using c139
                        clear c139
                        by_cases c140 : t725 = t729
                        · rw [if_pos c140] at H
                          have c140b0 : (t725 == t729) = true := beq_iff_eq.mpr c140
                          have c140b1 : (t725 != t729) = false := bne_eq_false_iff_eq.mpr c140
                          clear c140
                          have H' := Aside0.mk H
                          clear H
                          go_wp2_with (first | ((with_reducible refine gate_dst (N := 6) rfl ?_); refine box_event ?hg (N := 6) ?hd (cs := #[.int .i64 0, .int .i64 0, .string (⟨#[]⟩ : ByteArray)]) (t := 23) ?hr ?_; (case hd => rfl); (case hg => rfl); (case hr => first | (go_simp; done) | (go_simp; rfl)); intro gb672 hg w141 hbox hb; have BK672 := Aside0.mk (hbox); have GW672 := qz HB hg; have GE672 := qz HB hg; have NB669_672 := ql BK669 hg; have NB672_669 := qg BK669 hg; have NB670_672 := ql BK670 hg; have NB672_670 := qg BK670 hg; replace BK669 := qb BK669 hb; replace BK670 := qb BK670 hb; replace HB := qs HB hb; clear hb hbox hg) | ((with_reducible refine gate_dst (N := 7) rfl ?_); refine box_event ?hg (N := 7) ?hd (cs := #[.int .i64 0, .int .i64 0, .string (⟨#[]⟩ : ByteArray)]) (t := 23) ?hr ?_; (case hd => rfl); (case hg => rfl); (case hr => first | (go_simp; done) | (go_simp; rfl)); intro gb673 hg w142 hbox hb; have BK673 := Aside0.mk (hbox); have GW673 := qz HB hg; have GE673 := qz HB hg; have NB669_673 := ql BK669 hg; have NB673_669 := qg BK669 hg; have NB670_673 := ql BK670 hg; have NB673_670 := qg BK670 hg; have NB672_673 := ql BK672 hg; have NB673_672 := qg BK672 hg; replace BK669 := qb BK669 hb; replace BK670 := qb BK670 hb; replace BK672 := qb BK672 hb; replace HB := qs HB hb; clear hb hbox hg; have hnb143 := NB669_670.out; have hnc143 := NB670_669.out; have hnb144 := NB669_672.out; have hnc144 := NB672_669.out; have hnb145 := NB669_673.out; have hnc145 := NB673_669.out; obtain ⟨hcz146_0, hcz146_1, hcz146_2, hfz146_0, hfz146_1, hfz146_2⟩ := qc3 BK669) | ((with_reducible refine gate_callee (f := 15) rfl ?_); refine qgo (some 101) rfl rfl Try.func15 #[.agg #[.int .i64 a0_0, .int .i64 a0_1, .string a0_2]] rfl ?_; (with_reducible refine (arith_Dec.calls k1 a0_0 a0_1 a0_2 t722 t723 t724 t725 _ A137.out).mono ?_); rintro e w147 ⟨rfl, hb⟩; refine ⟨_, rfl, ?_⟩; replace BK669 := qb BK669 hb; replace BK670 := qb BK670 hb; replace BK672 := qb BK672 hb; replace BK673 := qb BK673 hb; replace HB := qs HB hb; (try clear hb); (try clear hb2); (try clear hk); (try clear hi); (try clear A137); have hnb148 := NB672_670.out; have hnc148 := NB670_672.out; have hnb149 := NB672_673.out; have hnc149 := NB673_672.out; obtain ⟨hcz150_0, hcz150_1, hcz150_2, hfz150_0, hfz150_1, hfz150_2⟩ := qc3 BK672; obtain ⟨hcz151_0, hcz151_1, hcz151_2, hfz151_0, hfz151_1, hfz151_2⟩ := qc3 BK669) | ((with_reducible refine gate_callee (f := 25) rfl ?_); refine qgo (some 106) rfl rfl Try.func25 #[.agg #[.int .i64 a0_0, .int .i64 a0_1, .string a0_2]] rfl ?_; (with_reducible refine (marqueeref02_Dec.calls k1 a0_0 a0_1 a0_2 t726 t727 t728 t729 _ A138.out).mono ?_); rintro e w152 ⟨rfl, hb⟩; refine ⟨_, rfl, ?_⟩; replace BK669 := qf BK669 hb; replace BK670 := qf BK670 hb; replace BK672 := Aside0.mk (blk_below (g := gb672) (o := .cells #[.int .i64 t722, .int .i64 t723, .string t724] 23 (0, 0)) (by (with_reducible repeat (first | refine blk_drewN ?_ _ | refine blk_drew ?_ | refine blk_alloc ?_ _)); refine blk_put (cs := #[.int .i64 t722, .int .i64 t723, .string (⟨#[]⟩ : ByteArray)]) ?_ 2 _ rfl; (with_reducible repeat (first | refine blk_drewN ?_ _ | refine blk_drew ?_ | refine blk_alloc ?_ _)); refine blk_put (cs := #[.int .i64 t722, .int .i64 0, .string (⟨#[]⟩ : ByteArray)]) ?_ 1 _ rfl; (with_reducible repeat (first | refine blk_drewN ?_ _ | refine blk_drew ?_ | refine blk_alloc ?_ _)); refine blk_put (cs := #[.int .i64 0, .int .i64 0, .string (⟨#[]⟩ : ByteArray)]) ?_ 0 _ rfl; (with_reducible repeat (first | refine blk_drewN ?_ _ | refine blk_drew ?_ | refine blk_alloc ?_ _)); exact BK672.out) hb); replace BK673 := qf BK673 hb; replace HB := qs HB hb; (try clear hb); (try clear hb2); (try clear hk); (try clear hi); (try clear A138); have hnb153 := NB673_670.out; have hnc153 := NB670_673.out; obtain ⟨hcz154_0, hcz154_1, hcz154_2, hfz154_0, hfz154_1, hfz154_2⟩ := qc3 BK673; obtain ⟨hcz155_0, hcz155_1, hcz155_2, hfz155_0, hfz155_1, hfz155_2⟩ := qc3 BK672))
                          go_roundg k1
                          case measure => have := HK1.out; omega
                          case rel => exact ⟨(wrap64 (x5_1 + 1)), (by first | rfl | (simp; done) | (simp [*]; done)), H', ⟨by have := HK1.out; omega⟩, ⟨by (with_reducible repeat (first | refine blk_drewN ?_ _ | refine blk_drew ?_ | refine blk_alloc ?_ _)); refine blk_far ?_ NB669_673.out _; (with_reducible repeat (first | refine blk_drewN ?_ _ | refine blk_drew ?_ | refine blk_alloc ?_ _)); refine blk_far ?_ NB669_673.out _; (with_reducible repeat (first | refine blk_drewN ?_ _ | refine blk_drew ?_ | refine blk_alloc ?_ _)); refine blk_far ?_ NB669_673.out _; (with_reducible repeat (first | refine blk_drewN ?_ _ | refine blk_drew ?_ | refine blk_alloc ?_ _)); exact BK669.out⟩, ⟨by (with_reducible repeat (first | refine blk_drewN ?_ _ | refine blk_drew ?_ | refine blk_alloc ?_ _)); refine blk_far ?_ NB670_673.out _; (with_reducible repeat (first | refine blk_drewN ?_ _ | refine blk_drew ?_ | refine blk_alloc ?_ _)); refine blk_far ?_ NB670_673.out _; (with_reducible repeat (first | refine blk_drewN ?_ _ | refine blk_drew ?_ | refine blk_alloc ?_ _)); refine blk_far ?_ NB670_673.out _; (with_reducible repeat (first | refine blk_drewN ?_ _ | refine blk_drew ?_ | refine blk_alloc ?_ _)); exact BK670.out⟩, ⟨by repeat (first | (with_reducible first | exact HB.out | apply below_alloc | apply pw_below_drewN | apply below_drew1 | refine below_set ?_ GE669.out | refine below_set ?_ GE670.out | refine below_set ?_ GE672.out | refine below_set ?_ GE673.out) | exact HB.out)⟩⟩
                        · rw [if_neg c140] at H
                          exact absurd H (by simp)
                    · rw [if_neg c136] at H
                      have c136b0 : (x5_1 == 6) = false := beq_eq_false_iff_ne.mpr c136
                      have c136b1 : (x5_1 != 6) = true := bne_iff_ne.mpr c136
                      by_cases c156 : x5_1 = 7
                      · rw [if_pos c156] at H
                        have c156b0 : (x5_1 == 7) = true := beq_iff_eq.mpr c156
                        have c156b1 : (x5_1 != 7) = false := bne_eq_false_iff_eq.mpr c156
                        clear c156
                        replace H := Option.bind_eq_some_iff.mp H
                        obtain ⟨⟨t730, t731, t732, t733⟩, A1570, H⟩ := H
                        (try dsimp only at H)
                        have A157 := Aside0.mk A1570
                        clear A1570
                        replace H := Option.bind_eq_some_iff.mp H
                        obtain ⟨⟨t734, t735, t736, t737⟩, A1580, H⟩ := H
                        (try dsimp only at H)
                        have A158 := Aside0.mk A1580
                        clear A1580
                        by_cases c159 : (!(t730 == t734) || (!(t731 == t735) || (!(t732.toList == t736.toList)))) = true
                        · rw [if_pos c159] at H
                          exact absurd H (by simp)
                        · rw [if_neg c159] at H
                          have c159b0 : (!(t730 == t734) || (!(t731 == t735) || (!(t732.toList == t736.toList)))) = false := by simpa using c159
                          clear c159
                          by_cases c160 : t733 = t737
                          · rw [if_pos c160] at H
                            have c160b0 : (t733 == t737) = true := beq_iff_eq.mpr c160
                            have c160b1 : (t733 != t737) = false := bne_eq_false_iff_eq.mpr c160
                            clear c160
                            have H' := Aside0.mk H
                            clear H
                            go_wp2_with (first | ((with_reducible refine gate_dst (N := 6) rfl ?_); refine box_event ?hg (N := 6) ?hd (cs := #[.int .i64 0, .int .i64 0, .string (⟨#[]⟩ : ByteArray)]) (t := 23) ?hr ?_; (case hd => rfl); (case hg => rfl); (case hr => first | (go_simp; done) | (go_simp; rfl)); intro gb672 hg w161 hbox hb; have BK672 := Aside0.mk (hbox); have GW672 := qz HB hg; have GE672 := qz HB hg; have NB669_672 := ql BK669 hg; have NB672_669 := qg BK669 hg; have NB670_672 := ql BK670 hg; have NB672_670 := qg BK670 hg; replace BK669 := qb BK669 hb; replace BK670 := qb BK670 hb; replace HB := qs HB hb; clear hb hbox hg) | ((with_reducible refine gate_dst (N := 7) rfl ?_); refine box_event ?hg (N := 7) ?hd (cs := #[.int .i64 0, .int .i64 0, .string (⟨#[]⟩ : ByteArray)]) (t := 23) ?hr ?_; (case hd => rfl); (case hg => rfl); (case hr => first | (go_simp; done) | (go_simp; rfl)); intro gb673 hg w162 hbox hb; have BK673 := Aside0.mk (hbox); have GW673 := qz HB hg; have GE673 := qz HB hg; have NB669_673 := ql BK669 hg; have NB673_669 := qg BK669 hg; have NB670_673 := ql BK670 hg; have NB673_670 := qg BK670 hg; have NB672_673 := ql BK672 hg; have NB673_672 := qg BK672 hg; replace BK669 := qb BK669 hb; replace BK670 := qb BK670 hb; replace BK672 := qb BK672 hb; replace HB := qs HB hb; clear hb hbox hg; have hnb163 := NB669_670.out; have hnc163 := NB670_669.out; have hnb164 := NB669_672.out; have hnc164 := NB672_669.out; have hnb165 := NB669_673.out; have hnc165 := NB673_669.out; obtain ⟨hcz166_0, hcz166_1, hcz166_2, hfz166_0, hfz166_1, hfz166_2⟩ := qc3 BK669) | ((with_reducible refine gate_callee (f := 17) rfl ?_); refine qgo (some 113) rfl rfl Try.func17 #[.agg #[.int .i64 a0_0, .int .i64 a0_1, .string a0_2]] rfl ?_; (with_reducible refine (arith_Int.calls k1 a0_0 a0_1 a0_2 t730 t731 t732 t733 _ A157.out).mono ?_); rintro e w167 ⟨rfl, hb⟩; refine ⟨_, rfl, ?_⟩; replace BK669 := qb BK669 hb; replace BK670 := qb BK670 hb; replace BK672 := qb BK672 hb; replace BK673 := qb BK673 hb; replace HB := qs HB hb; (try clear hb); (try clear hb2); (try clear hk); (try clear hi); (try clear A157); have hnb168 := NB672_670.out; have hnc168 := NB670_672.out; have hnb169 := NB672_673.out; have hnc169 := NB673_672.out; obtain ⟨hcz170_0, hcz170_1, hcz170_2, hfz170_0, hfz170_1, hfz170_2⟩ := qc3 BK672; obtain ⟨hcz171_0, hcz171_1, hcz171_2, hfz171_0, hfz171_1, hfz171_2⟩ := qc3 BK669) | ((with_reducible refine gate_callee (f := 26) rfl ?_); refine qgo (some 118) rfl rfl Try.func26 #[.agg #[.int .i64 a0_0, .int .i64 a0_1, .string a0_2]] rfl ?_; (with_reducible refine (marqueeref02_Int.calls k1 a0_0 a0_1 a0_2 t734 t735 t736 t737 _ A158.out).mono ?_); rintro e w172 ⟨rfl, hb⟩; refine ⟨_, rfl, ?_⟩; replace BK669 := qf BK669 hb; replace BK670 := qf BK670 hb; replace BK672 := Aside0.mk (blk_below (g := gb672) (o := .cells #[.int .i64 t730, .int .i64 t731, .string t732] 23 (0, 0)) (by (with_reducible repeat (first | refine blk_drewN ?_ _ | refine blk_drew ?_ | refine blk_alloc ?_ _)); refine blk_put (cs := #[.int .i64 t730, .int .i64 t731, .string (⟨#[]⟩ : ByteArray)]) ?_ 2 _ rfl; (with_reducible repeat (first | refine blk_drewN ?_ _ | refine blk_drew ?_ | refine blk_alloc ?_ _)); refine blk_put (cs := #[.int .i64 t730, .int .i64 0, .string (⟨#[]⟩ : ByteArray)]) ?_ 1 _ rfl; (with_reducible repeat (first | refine blk_drewN ?_ _ | refine blk_drew ?_ | refine blk_alloc ?_ _)); refine blk_put (cs := #[.int .i64 0, .int .i64 0, .string (⟨#[]⟩ : ByteArray)]) ?_ 0 _ rfl; (with_reducible repeat (first | refine blk_drewN ?_ _ | refine blk_drew ?_ | refine blk_alloc ?_ _)); exact BK672.out) hb); replace BK673 := qf BK673 hb; replace HB := qs HB hb; (try clear hb); (try clear hb2); (try clear hk); (try clear hi); (try clear A158); have hnb173 := NB673_670.out; have hnc173 := NB670_673.out; obtain ⟨hcz174_0, hcz174_1, hcz174_2, hfz174_0, hfz174_1, hfz174_2⟩ := qc3 BK673; obtain ⟨hcz175_0, hcz175_1, hcz175_2, hfz175_0, hfz175_1, hfz175_2⟩ := qc3 BK672))
                            go_roundg k1
                            case measure => have := HK1.out; omega
                            case rel => exact ⟨(wrap64 (x5_1 + 1)), (by first | rfl | (simp; done) | (simp [*]; done)), H', ⟨by have := HK1.out; omega⟩, ⟨by (with_reducible repeat (first | refine blk_drewN ?_ _ | refine blk_drew ?_ | refine blk_alloc ?_ _)); refine blk_far ?_ NB669_673.out _; (with_reducible repeat (first | refine blk_drewN ?_ _ | refine blk_drew ?_ | refine blk_alloc ?_ _)); refine blk_far ?_ NB669_673.out _; (with_reducible repeat (first | refine blk_drewN ?_ _ | refine blk_drew ?_ | refine blk_alloc ?_ _)); refine blk_far ?_ NB669_673.out _; (with_reducible repeat (first | refine blk_drewN ?_ _ | refine blk_drew ?_ | refine blk_alloc ?_ _)); exact BK669.out⟩, ⟨by (with_reducible repeat (first | refine blk_drewN ?_ _ | refine blk_drew ?_ | refine blk_alloc ?_ _)); refine blk_far ?_ NB670_673.out _; (with_reducible repeat (first | refine blk_drewN ?_ _ | refine blk_drew ?_ | refine blk_alloc ?_ _)); refine blk_far ?_ NB670_673.out _; (with_reducible repeat (first | refine blk_drewN ?_ _ | refine blk_drew ?_ | refine blk_alloc ?_ _)); refine blk_far ?_ NB670_673.out _; (with_reducible repeat (first | refine blk_drewN ?_ _ | refine blk_drew ?_ | refine blk_alloc ?_ _)); exact BK670.out⟩, ⟨by repeat (first | (with_reducible first | exact HB.out | apply below_alloc | apply pw_below_drewN | apply below_drew1 | refine below_set ?_ GE669.out | refine below_set ?_ GE670.out | refine below_set ?_ GE672.out | refine below_set ?_ GE673.out) | exact HB.out)⟩⟩
                          · rw [if_neg c160] at H
                            exact absurd H (by simp)
                      · rw [if_neg c156] at H
                        have c156b0 : (x5_1 == 7) = false := beq_eq_false_iff_ne.mpr c156
                        have c156b1 : (x5_1 != 7) = true := bne_iff_ne.mpr c156
                        by_cases c176 : (0 : Int) = 0
                        · (first | rw [if_pos c176] at H | rw [if_pos True.intro] at H)
                          clear c176
                          have H' := Aside0.mk H
                          clear H
                          go_wp2_with (first | ((with_reducible refine gate_dst (N := 6) rfl ?_); refine box_event ?hg (N := 6) ?hd (cs := #[.int .i64 0, .int .i64 0, .string (⟨#[]⟩ : ByteArray)]) (t := 23) ?hr ?_; (case hd => rfl); (case hg => rfl); (case hr => first | (go_simp; done) | (go_simp; rfl)); intro gb672 hg w177 hbox hb; have BK672 := Aside0.mk (hbox); have GW672 := qz HB hg; have GE672 := qz HB hg; have NB669_672 := ql BK669 hg; have NB672_669 := qg BK669 hg; have NB670_672 := ql BK670 hg; have NB672_670 := qg BK670 hg; replace BK669 := qb BK669 hb; replace BK670 := qb BK670 hb; replace HB := qs HB hb; clear hb hbox hg) | ((with_reducible refine gate_dst (N := 7) rfl ?_); refine box_event ?hg (N := 7) ?hd (cs := #[.int .i64 0, .int .i64 0, .string (⟨#[]⟩ : ByteArray)]) (t := 23) ?hr ?_; (case hd => rfl); (case hg => rfl); (case hr => first | (go_simp; done) | (go_simp; rfl)); intro gb673 hg w178 hbox hb; have BK673 := Aside0.mk (hbox); have GW673 := qz HB hg; have GE673 := qz HB hg; have NB669_673 := ql BK669 hg; have NB673_669 := qg BK669 hg; have NB670_673 := ql BK670 hg; have NB673_670 := qg BK670 hg; have NB672_673 := ql BK672 hg; have NB673_672 := qg BK672 hg; replace BK669 := qb BK669 hb; replace BK670 := qb BK670 hb; replace BK672 := qb BK672 hb; replace HB := qs HB hb; clear hb hbox hg; have hnb179 := NB672_669.out; have hnc179 := NB669_672.out; have hnb180 := NB672_670.out; have hnc180 := NB670_672.out; have hnb181 := NB672_673.out; have hnc181 := NB673_672.out; obtain ⟨hcz182_0, hcz182_1, hcz182_2, hfz182_0, hfz182_1, hfz182_2⟩ := qc3 BK672; have hnb183 := NB673_669.out; have hnc183 := NB669_673.out; have hnb184 := NB673_670.out; have hnc184 := NB670_673.out; obtain ⟨hcz185_0, hcz185_1, hcz185_2, hfz185_0, hfz185_1, hfz185_2⟩ := qc3 BK673))
                          go_roundg k1
                          case measure => have := HK1.out; omega
                          case rel => exact ⟨(wrap64 (x5_1 + 1)), (by first | rfl | (simp; done) | (simp [*]; done)), H', ⟨by have := HK1.out; omega⟩, ⟨by (with_reducible repeat (first | refine blk_drewN ?_ _ | refine blk_drew ?_ | refine blk_alloc ?_ _)); exact BK669.out⟩, ⟨by (with_reducible repeat (first | refine blk_drewN ?_ _ | refine blk_drew ?_ | refine blk_alloc ?_ _)); exact BK670.out⟩, ⟨by repeat (first | (with_reducible first | exact HB.out | apply below_alloc | apply pw_below_drewN | apply below_drew1 | refine below_set ?_ GE669.out | refine below_set ?_ GE670.out | refine below_set ?_ GE672.out | refine below_set ?_ GE673.out) | exact HB.out)⟩⟩
                        · exact absurd rfl c176
      · rw [if_neg c5] at H
        have c5b0 : decide (x5_1 < 8) = false := decide_eq_false c5
        clear c5
        replace H := Option.bind_eq_some_iff.mp H
        obtain ⟨t671, A1860, H⟩ := H
        (try dsimp only at H)
        have A186 := Aside0.mk A1860
        clear A1860
        obtain rfl := Option.some.inj H
        go_wp2_with (first | ((with_reducible refine gate_callee (f := 12) rfl ?_); refine qgo (some 129) rfl rfl Try.func12 #[] rfl ?_; (with_reducible refine (marqueelaw02_sure.calls k1  t671 _ A186.out).mono ?_); rintro e w187 ⟨rfl, hb⟩; refine ⟨_, rfl, ?_⟩; replace BK669 := qb BK669 hb; replace BK670 := qb BK670 hb; replace HB := qs HB hb; (try clear hb); (try clear hb2); (try clear hk); (try clear hi); (try clear A186)))
        go_ret
        exact ⟨by first | rfl | (simp [errW_none, errW_some] <;> rfl) | (simp [*, errW_none, errW_some] <;> rfl), by repeat (first | (with_reducible first | exact HB.out | apply below_alloc | apply pw_below_drewN | apply below_drew1 | refine below_set ?_ GE669.out | refine below_set ?_ GE670.out) | exact HB.out)⟩

end Go.Proofs.Ytnfolhfnkbidgaa.Print
