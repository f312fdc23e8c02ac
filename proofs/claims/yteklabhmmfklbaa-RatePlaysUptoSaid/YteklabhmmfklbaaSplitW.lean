import Derived.Test.YteklabhmmfklbaaSplitE
import Derived.Test.YteklabhmmfklbaaMgC
import Derived.BigQuiet
namespace Go.Proofs.Yteklabhmmfklbaa
open Go.RowKit Print Go.Proofs.YteklabhmmfklbaaW.PrintWords Go.Proofs.YteklabhmmfklbaaW.PrintLast Go.Proofs.YteklabhmmfklbaaW.PrintMore
attribute [local go_sem] max2_int min2_int max_two min_two
set_option linter.unusedVariables false
set_option linter.unusedSimpArgs false
/-- All rows of a list of operations. -/
def tot (l : List O33) : Nat := (l.map fun o => o.2.2.2.1.f0.length + o.2.2.2.1.f1.length).sum
theorem sum_take_le (l : List Nat) (i : Nat) : (l.take i).sum ≤ l.sum := by
  induction l generalizing i with
  | nil => simp
  | cons a l ih =>
    cases i with
    | zero => simp
    | succ i => simp only [List.take_succ_cons, List.sum_cons]; have := ih i; omega
theorem tot_take_le (l : List O33) (i : Nat) : tot (l.take i) ≤ tot l := by
  unfold tot; rw [List.map_take]; exact sum_take_le _ _
theorem rd33_mem {l : List O33} {i : Int} (h0 : 0 ≤ i) (h1 : i < l.length) : rd33 l i ∈ l := by
  unfold rd33; rw [getD_get _ _ _ (by omega)]; exact List.getElem_mem _
theorem tot_step {l : List O33} {i : Int} (h0 : 0 ≤ i) (h1 : i < l.length) : tot (l.take (i + 1).toNat) = tot (l.take i.toNat) + ((rd33 l i).2.2.2.1.f0.length + (rd33 l i).2.2.2.1.f1.length) := by
  have e : (i + 1).toNat = i.toNat + 1 := by omega
  rw [e, List.take_succ_eq_append_getElem (by omega)]
  unfold tot rd33
  rw [getD_get _ _ _ (by omega), List.map_append, List.sum_append]
  simp only [List.map_cons, List.map_nil, List.sum_cons, List.sum_nil, Nat.add_zero]
theorem inv0 {k n : Int} {t : Bool} (h : rate_Check.f 4 k n t = some 0) (h0 : 0 ≤ n) (h1 : n ≤ 1099511627776) : Inv ⟨k, n, t, 0, n, 0, false⟩ := by
  have hc := check_yes h
  unfold okS at hc
  refine ⟨⟨by show k = 0 ∨ k = 1 ∨ k = 2 ∨ k = 3 ∨ k = 4; omega, fun ht => ?_, Int.le_refl _, by show (0 : Int) ≤ late; unfold late; omega, fun ht => ?_, h1, fun _ => h0, fun _ => by show n ≤ 0 + n; omega⟩, ⟨Int.le_refl _, by show (0 : Int) ≤ late; unfold late; omega⟩, fun ht => ?_⟩
  · rcases hc with hc | hc
    · exact absurd (hc.2.2.symm.trans ht) (by decide)
    · have h3 : k ≠ 0 := by omega
      exact h3
  · rcases hc with hc | hc
    · exact absurd (hc.2.2.symm.trans ht) (by decide)
    · exact hc.2.1
  · rcases hc with hc | hc
    · exact absurd (hc.2.2.symm.trans ht) (by decide)
    · show (0 : Int) < n; omega
/-- The two rates go side by side. -/
structure LoopR (W1 : World) (g1 g2 : Nat) (k n : Int) (t : Bool) (l : List O33) (i : Nat) (clock : Int) (A2 : Option Addr) (c2 : Nat) (all : RowsL) (s : St) (ri ro : RowsL) (wr : World) : Prop where
  S : Apart wr [Rt g1 s ri ro, Rt g2 s ri ro, Old W1]
  I : Inv s
  clk : s.clock = clock
  hn : s.n = n
  ht : s.t = t
  si : Sm ri
  so : Sm ro
  li : ri.length + ro.length ≤ tot (l.take i)
  c0 : 0 ≤ clock
  c1 : clock ≤ 1125899906842624
  F : Kd.F kR wr (fun k => k < W1.heap.size) A2 all.length all
  lc : all.length ≤ c2
  sa : Sm all
theorem LoopR.below {W1 wr wx : World} {g1 g2 : Nat} {k n : Int} {t : Bool} {l : List O33} {i : Nat} {clock : Int} {A2 : Option Addr} {c2 : Nat} {all : RowsL} {s : St} {ri ro : RowsL} (h : LoopR W1 g1 g2 k n t l i clock A2 c2 all s ri ro wr) (hb : Below wr.heap.size wr wx) : LoopR W1 g1 g2 k n t l i clock A2 c2 all s ri ro wx :=
  ⟨h.S.onto hb, h.I, h.clk, h.hn, h.ht, h.si, h.so, h.li, h.c0, h.c1, Kd.F_below h.F hb, h.lc, h.sa⟩
theorem LoopR.next {W1 wr : World} {g1 g2 : Nat} {k n : Int} {t : Bool} {l : List O33} {i : Int} {clock : Int} {A2 : Option Addr} {c2 : Nat} {all : RowsL} {s : St} {ri ro : RowsL} (h : LoopR W1 g1 g2 k n t l i.toNat clock A2 c2 all s ri ro wr) (h0 : 0 ≤ i) (h1 : i < l.length) : LoopR W1 g1 g2 k n t l (i + 1).toNat clock A2 c2 all s ri ro wr :=
  ⟨h.S, h.I, h.clk, h.hn, h.ht, h.si, h.so, by rw [tot_step h0 h1]; have := h.li; omega, h.c0, h.c1, h.F, h.lc, h.sa⟩
theorem LoopR.old {W1 wr : World} {g1 g2 : Nat} {k n : Int} {t : Bool} {l : List O33} {i : Nat} {clock : Int} {A2 : Option Addr} {c2 : Nat} {all : RowsL} {s : St} {ri ro : RowsL} (h : LoopR W1 g1 g2 k n t l i clock A2 c2 all s ri ro wr) : Below W1.heap.size W1 wr := Sep.done (h.S.pick 2)
theorem F_move {W1 w' : World} {A : Option Addr} {n : Nat} {xs : RowsL} (h : Kd.F kR W1 (fun k => k < W1.heap.size) A n xs) (h2 : Below W1.heap.size W1 w') : Kd.F kR w' (fun k => k < W1.heap.size) A n xs := Kd.F_below h h2
theorem LoopR.fits {W1 wr : World} {g1 g2 : Nat} {k n : Int} {t : Bool} {l : List O33} {i : Int} {clock : Int} {A2 : Option Addr} {c2 : Nat} {all : RowsL} {s : St} {ri ro : RowsL} (h : LoopR W1 g1 g2 k n t l i.toNat clock A2 c2 all s ri ro wr) (h0 : 0 ≤ i) (h1 : i < l.length) {now : Int}
    (hL : tot l ≤ 1048576 ∧ ∀ o ∈ l, Sm o.2.2.2.1.f0 ∧ Sm o.2.2.2.1.f1 ∧ Sm o.2.2.2.2) (hm : ¬ manyP n t clock now) (hc : ¬ now < clock ∧ ¬ 1125899906842624 < now) : Fits s ri ro now (rd33 l i).2.2.2.1.f0 (rd33 l i).2.2.2.1.f1 (rd33 l i).2.2.2.2 := by
  have hs := hL.2 _ (rd33_mem h0 h1)
  have ht := tot_step h0 h1
  have hle := tot_take_le l (i + 1).toNat
  have hli := h.li
  have h3 := hL.1
  have hclk := h.clk
  exact ⟨h.I.g, h.si, h.so, hs.1, hs.2.1, hs.2.2, h.I.ev, by omega, by omega, by
    rw [nw_eq (by omega) (by omega), mn_late (by omega)]
    exact few h.I (by rw [h.hn, h.ht, h.clk]; exact hm) (by omega)⟩
theorem LoopR.fed {W1 wr w' : World} {g1 g2 : Nat} {k n : Int} {t : Bool} {l : List O33} {i : Int} {clock : Int} {A2 A5 : Option Addr} {c2 c5 : Nat} {all : RowsL} {s : St} {ri ro : RowsL} (h : LoopR W1 g1 g2 k n t l i.toNat clock A2 c2 all s ri ro wr) (h0 : 0 ≤ i) (h1 : i < l.length) {now ev : Int}
    (hL : tot l ≤ 1048576 ∧ ∀ o ∈ l, Sm o.2.2.2.1.f0 ∧ Sm o.2.2.2.1.f1 ∧ Sm o.2.2.2.2) (hm : ¬ manyP n t clock now) (hc : ¬ now < clock ∧ ¬ 1125899906842624 < now) (hF : Kd.F kR W1 (fun k => k < W1.heap.size) A5 (rd33 l i).2.2.2.2.length (rd33 l i).2.2.2.2) (h5 : (rd33 l i).2.2.2.2.length ≤ c5)
    (hS : Apart w' [Rt g1 (feed s ri ro now ev (rd33 l i).2.2.2.1.f0 (rd33 l i).2.2.2.1.f1 (rd33 l i).2.2.2.2).1 (feed s ri ro now ev (rd33 l i).2.2.2.1.f0 (rd33 l i).2.2.2.1.f1 (rd33 l i).2.2.2.2).2.1 (feed s ri ro now ev (rd33 l i).2.2.2.1.f0 (rd33 l i).2.2.2.1.f1 (rd33 l i).2.2.2.2).2.2.1,
      Rt g2 (feed s ri ro now ev (rd33 l i).2.2.2.1.f0 (rd33 l i).2.2.2.1.f1 (rd33 l i).2.2.2.2).1 (feed s ri ro now ev (rd33 l i).2.2.2.1.f0 (rd33 l i).2.2.2.1.f1 (rd33 l i).2.2.2.2).2.1 (feed s ri ro now ev (rd33 l i).2.2.2.1.f0 (rd33 l i).2.2.2.1.f1 (rd33 l i).2.2.2.2).2.2.1, Old W1]) :
    LoopR W1 g1 g2 k n t l (i + 1).toNat now A5 c5 (rd33 l i).2.2.2.2 (feed s ri ro now ev (rd33 l i).2.2.2.1.f0 (rd33 l i).2.2.2.1.f1 (rd33 l i).2.2.2.2).1 (feed s ri ro now ev (rd33 l i).2.2.2.1.f0 (rd33 l i).2.2.2.1.f1 (rd33 l i).2.2.2.2).2.1 (feed s ri ro now ev (rd33 l i).2.2.2.1.f0 (rd33 l i).2.2.2.1.f1 (rd33 l i).2.2.2.2).2.2.1 w' := by
  have hf := h.fits h0 h1 hL hm hc
  have hs := hL.2 _ (rd33_mem h0 h1)
  have ht := tot_step h0 h1
  have hclk := h.clk
  have hli := h.li
  have h00 := h.c0
  obtain ⟨q1, q2, q3, q4, q5⟩ := feed_inv h.I ri ro ev (rd33 l i).2.2.2.1.f0 (rd33 l i).2.2.2.1.f1 (rd33 l i).2.2.2.2 (now := now) (by omega) (by omega) (few h.I (by rw [h.hn, h.ht, h.clk]; exact hm) (by omega))
  obtain ⟨r1, r2, r3, r4⟩ := feed_rows (s := s) ri ro now ev _ _ (rd33 l i).2.2.2.2 hf.i hf.o hf.x hf.y hf.zi hf.zo
  exact ⟨hS, q1, q2, q4.trans h.hn, q5.trans h.ht, r1, r2, by omega, by omega, by omega, F_move hF (Sep.done (hS.pick 2)), h5, hs.2.2⟩
set_option maxHeartbeats 8000000 in
set_option maxRecDepth 100000 in
theorem split_any (k n : Int) (t : Bool) (A : Option Addr) (c : Nat) (l : List O33) (x y : Int) (w : World) (hl : Kd.C k33 w A l.length l) (hc : l.length ≤ c) (htot : tot l ≤ 1048576) (hsm : ∀ o ∈ l, Sm o.2.2.2.1.f0 ∧ Sm o.2.2.2.1.f1 ∧ Sm o.2.2.2.2)
    (hck : rate_Check.f 4 k n t = some 0) (hn0 : 0 ≤ n) (hn1 : n ≤ 1099511627776) :
    Calls Try.prog 3 #[.agg #[.int .i64 k, .int .i64 n, .bool t], .slice A l.length c, .agg #[.int .i64 x, .int .i64 y]] w fun e w' => e = .returned (.bool true) ∧ Below w.heap.size w w' := by
  have hu23 := Try.underlying23
  have hu31 := Try.underlying31
  have hu33 := Try.underlying33
  have hu25 := Try.underlying25
  go_enter Try.func3, Try.ntmps3
  go_upto_region 1 with fail
  have hb0 : Below w.heap.size w ((w.alloc (.cells #[.int .i64 k, .int .i64 n, .bool t] 23)).alloc (.cells #[.int .i64 x, .int .i64 y] 25)) := below_alloc (below_alloc (Below.refl _ _) _) _
  have x1 : ((w.alloc (.cells #[.int .i64 k, .int .i64 n, .bool t] 23)).alloc (.cells #[.int .i64 x, .int .i64 y] 25)).heap[w.heap.size + 1]? = some (.cells #[.int .i64 x, .int .i64 y] 25 (0, 0)) := by simpa using heap_alloc_new (w.alloc (.cells #[.int .i64 k, .int .i64 n, .bool t] 23)) (.cells #[.int .i64 x, .int .i64 y] 25)
  have x0 : ((w.alloc (.cells #[.int .i64 k, .int .i64 n, .bool t] 23)).alloc (.cells #[.int .i64 x, .int .i64 y] 25)).heap[w.heap.size]? = some (.cells #[.int .i64 k, .int .i64 n, .bool t] 23 (0, 0)) := ((below_alloc (Below.refl _ _) _).block _ (by simp)).trans (heap_alloc_new w _)
  generalize ((w.alloc (.cells #[.int .i64 k, .int .i64 n, .bool t] 23)).alloc (.cells #[.int .i64 x, .int .i64 y] 25)) = W1 at *
  have a0 : W1.cell? ⟨w.heap.size, 0, none⟩ = some (.int .i64 k) := (blk_cell x0 0).trans rfl
  have a1 : W1.cell? ⟨w.heap.size, 1, none⟩ = some (.int .i64 n) := (blk_cell x0 1).trans rfl
  have a2 : W1.cell? ⟨w.heap.size, 2, none⟩ = some (.bool t) := (blk_cell x0 2).trans rfl
  have HX := Aside0.mk (And.intro x0 (And.intro x1 (And.intro hb0 (And.intro (Kd.C_below hl hb0) hc))))
  have HC := Aside0.mk (And.intro hck (And.intro hn0 hn1))
  have HL := Aside0.mk (And.intro htot hsm)
  have HS0 := Aside0.mk (Sep.begin W1)
  clear x0 x1 hb0 hl hc hck hn0 hn1 htot hsm
  go_cut [7, 8] (fun v7 v8 wx => ∃ g1 g2, v7 = .pointer (some ⟨g1, 0, none⟩) ∧ v8 = .pointer (some ⟨g2, 0, none⟩) ∧ Aside0 (Apart wx [Rt g2 ⟨k, n, t, 0, n, 0, false⟩ [] [], Rt g1 ⟨k, n, t, 0, n, 0, false⟩ [] [], Old W1]))
  case first =>
    go_region_held3 (fun w' => w'.cell? ⟨w.heap.size, 0, none⟩ = some (.int .i64 k) ∧ w'.cell? ⟨w.heap.size, 1, none⟩ = some (.int .i64 n) ∧ w'.cell? ⟨w.heap.size, 2, none⟩ = some (.bool t))
      (first | go_keep)
      (first | (go_at_call 7; refine (new_sep k n t 0 HS0.out (by repeat (first | exact Below.refl _ _ | apply below_alloc | apply pw_below_drewN | apply below_drew1)) HC.out.1 (by decide) (by decide) HC.out.2.1 HC.out.2.2).mono ?_; rintro e w1 ⟨g1, rfl, hq⟩; have b0 := pw_cell_below (Sep.done (hq.pick 1)) a0; have b1 := pw_cell_below (Sep.done (hq.pick 1)) a1; have b2 := pw_cell_below (Sep.done (hq.pick 1)) a2; have HS1 := Aside0.mk hq; clear hq HS0) | (go_at_call 7; refine (new_sep k n t 0 HS1.out (by repeat (first | exact Below.refl _ _ | apply below_alloc | apply pw_below_drewN | apply below_drew1)) HC.out.1 (by decide) (by decide) HC.out.2.1 HC.out.2.2).mono ?_; rintro e w2 ⟨g2, rfl, hq⟩; have c0 := pw_cell_below (Sep.done (hq.pick 2)) a0; have c1 := pw_cell_below (Sep.done (hq.pick 2)) a1; have c2 := pw_cell_below (Sep.done (hq.pick 2)) a2; have HS2 := Aside0.mk hq; clear hq HS1))
    all_goals
      go_wp2_with fail
      go_meet
      case rel => exact ⟨g1, g2, rfl, rfl, by simpa using HS2⟩
  case rest =>
    obtain ⟨g1, g2, rfl, rfl, HS2⟩ := hcut
    obtain ⟨x0, x1, hb0, hl, hc⟩ := HX.out
    have HI : Aside0 (LoopR W1 g2 g1 k n t l 0 0 none 0 [] ⟨k, n, t, 0, n, 0, false⟩ [] [] wc) := ⟨⟨by simpa using HS2.out, inv0 HC.out.1 HC.out.2.1 HC.out.2.2, rfl, rfl, rfl, Sm.nil, Sm.nil, Nat.zero_le _, Int.le_refl _, by decide, Kd.F_nil _ _ _, Nat.le_refl _, Sm.nil⟩⟩
    clear x0 x1 hb0 hl hc HS2
    go_wp2
    go_loopg [9, 10, 11] l.length (fun kq v9 v10 v11 wr => ∃ (clock : Int) (A2 : Option Addr) (c2 : Nat) (all : RowsL) (i : Int) (s : St) (ri ro : RowsL), v9 = .int .i64 clock ∧ v10 = .slice A2 all.length c2 ∧ v11 = .int .i64 i ∧ Aside0 (0 ≤ i ∧ i + kq = l.length) ∧ Aside0 (LoopR W1 g2 g1 k n t l i.toNat clock A2 c2 all s ri ro wr))
    case atStart => exact ⟨0, none, 0, [], 0, _, _, _, rfl, rfl, rfl, ⟨by omega, by omega⟩, HI⟩
    case round =>
      clear HI
      obtain ⟨clock, A2, c2, all, i, s, ri, ro, rfl, rfl, rfl, HK, HR⟩ := hrel
      obtain ⟨i0, ik⟩ := HK.out
      by_cases hi : i < l.length
      · obtain ⟨x0, x1, hb0, hl, hc⟩ := HX.out
        obtain ⟨ad, A3, c3, A4, c4, A5, c5, eA, p1, p2, p3, p4, p5, f0, l0, f1, l1, f2, l2⟩ := at33 hl (Below.refl _ _) i i0 hi
        have b0 := pw_cell_below HR.out.old a0
        have b1 := pw_cell_below HR.out.old a1
        have b2 := pw_cell_below HR.out.old a2
        have HF := Aside0.mk (And.intro f0 (And.intro l0 (And.intro f1 (And.intro l1 (And.intro f2 l2)))))
        have q1 := pw_cell_below HR.out.old p1
        have q2 := pw_cell_below HR.out.old p2
        have q3 := pw_cell_below HR.out.old p3
        have q4 := pw_cell_below HR.out.old p4
        have q5 := pw_cell_below HR.out.old p5
        have HP := Aside0.mk (And.intro p1 (And.intro p2 (And.intro p3 (And.intro p4 p5))))
        clear x0 x1 hb0 hl hc f0 l0 f1 l1 f2 l2 p1 p2 p3 p4 p5
        subst eA
        obtain ⟨gk, rfl⟩ : ∃ j, gk = j + 1 := ⟨gk - 1, by omega⟩
        have hmx : (l.length : Int) ≤ 9223372036854775807 := by have := Kd.C_max HX.out.2.2.2.1; omega
        have hii : i + 1 ≤ 9223372036854775807 := by omega
        obtain ⟨now, hnow⟩ : ∃ now, (rd33 l i).2.1 = now := ⟨_, rfl⟩
        rw [hnow] at q1 HP
        have HN := Aside0.mk hnow
        clear hnow
        by_cases c1 : now < clock
        · have d1 : decide (now < clock) = true := decide_eq_true c1
          clear c1
          go_upto_region 9 with fail
          go_quiet (fail)
          go_wp2
          go_roundg gk
          case measure => omega
          case rel => exact ⟨clock, A2, c2, all, i + 1, s, ri, ro, rfl, rfl, rfl, ⟨by omega, by omega⟩, ⟨(HR.out.below (by repeat (first | exact Below.refl _ _ | apply below_alloc | apply pw_below_drewN | apply below_drew1))).next i0 hi⟩⟩
        · by_cases c2 : 1125899906842624 < now
          · have d1 : decide (now < clock) = false := decide_eq_false c1
            have d2 : decide (1125899906842624 < now) = true := decide_eq_true c2
            clear c1 c2
            go_upto_region 9 with fail
            go_quiet (fail)
            go_wp2
            go_roundg gk
            case measure => omega
            case rel => exact ⟨clock, A2, c2, all, i + 1, s, ri, ro, rfl, rfl, rfl, ⟨by omega, by omega⟩, ⟨(HR.out.below (by repeat (first | exact Below.refl _ _ | apply below_alloc | apply pw_below_drewN | apply below_drew1))).next i0 hi⟩⟩
          · have d1 : decide (now < clock) = false := decide_eq_false c1
            have d2 : decide (1125899906842624 < now) = false := decide_eq_false c2
            have HM := Aside0.mk (fun (u : World) => many_any k n t clock now u HR.out.c0 (by omega))
            have HC12 := Aside0.mk (And.intro c1 c2)
            clear c1 c2
            go_upto_region 9 with fail
            go_cut [69] (fun v69 wx => v69 = .bool (decide (manyP n t clock now)) ∧ Aside0 (Below wr.heap.size wr wx))
            case first =>
              go_region_held3 (fun w' => w'.cell? ⟨(ad.add (i.toNat * 6)).block, (ad.add (i.toNat * 6)).off + 1, none⟩ = some (.int .i64 now) ∧ w'.cell? ⟨w.heap.size, 0, none⟩ = some (.int .i64 k) ∧ w'.cell? ⟨w.heap.size, 1, none⟩ = some (.int .i64 n) ∧ w'.cell? ⟨w.heap.size, 2, none⟩ = some (.bool t))
                (first | go_keep)
                (first | (go_at_call 9; refine (HM.out _).mono ?_; rintro e w3 ⟨rfl, hb⟩; have e0 := pw_cell_below hb (a := ⟨w.heap.size, 0, none⟩) (v := .int .i64 k) (by go_simp); have e1 := pw_cell_below hb (a := ⟨w.heap.size, 1, none⟩) (v := .int .i64 n) (by go_simp); have e2 := pw_cell_below hb (a := ⟨w.heap.size, 2, none⟩) (v := .bool t) (by go_simp); have e3 := pw_cell_below hb (a := ⟨(ad.add (i.toNat * 6)).block, (ad.add (i.toNat * 6)).off + 1, none⟩) (v := .int .i64 now) (by go_simp); have HB3 := Aside0.mk hb; clear hb HM))
              all_goals
                go_wp2_with fail
                go_meet
                case rel => exact ⟨by first | rfl | simp [*], ⟨below_step (by repeat (first | exact Below.refl _ _ | apply below_alloc | apply pw_below_drewN | apply below_drew1)) HB3.out⟩⟩
            case rest =>
              obtain ⟨rfl, hbl⟩ := hcut
              have HR2 := Aside0.mk (HR.out.below hbl.out)
              clear HR hbl q1 q2 q3 q4 q5 b0 b1 b2 HM
              by_cases cm : manyP n t clock now
              · rw [decide_eq_true cm]
                clear cm
                go_wp2
                go_roundg gk
                case measure => omega
                case rel => exact ⟨clock, A2, c2, all, i + 1, s, ri, ro, rfl, rfl, rfl, ⟨by omega, by omega⟩, ⟨HR2.out.next i0 hi⟩⟩
              · rw [decide_eq_false cm]
                have HCM := Aside0.mk cm
                have HFT := Aside0.mk (HR2.out.fits i0 hi HL.out cm HC12.out)
                clear cm
                have q1 := pw_cell_below HR2.out.old HP.out.1
                have q2 := pw_cell_below HR2.out.old HP.out.2.1
                have q3 := pw_cell_below HR2.out.old HP.out.2.2.1
                have q4 := pw_cell_below HR2.out.old HP.out.2.2.2.1
                have q5 := pw_cell_below HR2.out.old HP.out.2.2.2.2
                go_upto_region 12 with fail
                go_cut [93] (fun v93 wx => Aside0 (Apart wx [Rt g1 (feed s ri ro now (rd33 l i).2.2.1 (rd33 l i).2.2.2.1.f0 (rd33 l i).2.2.2.1.f1 (rd33 l i).2.2.2.2).1 (feed s ri ro now (rd33 l i).2.2.1 (rd33 l i).2.2.2.1.f0 (rd33 l i).2.2.2.1.f1 (rd33 l i).2.2.2.2).2.1 (feed s ri ro now (rd33 l i).2.2.1 (rd33 l i).2.2.2.1.f0 (rd33 l i).2.2.2.1.f1 (rd33 l i).2.2.2.2).2.2.1, Rt g2 s ri ro, Old W1]))
                case first =>
                  go_region_held3 (fun w' => w'.cell? ⟨(ad.add (i.toNat * 6)).block, (ad.add (i.toNat * 6)).off + 2, none⟩ = some (.int .i64 (rd33 l i).2.2.1) ∧ w'.cell? ⟨(ad.add (i.toNat * 6)).block, (ad.add (i.toNat * 6)).off + 3, none⟩ = some (.slice A3 (rd33 l i).2.2.2.1.f0.length c3) ∧ w'.cell? ⟨(ad.add (i.toNat * 6)).block, (ad.add (i.toNat * 6)).off + 4, none⟩ = some (.slice A4 (rd33 l i).2.2.2.1.f1.length c4))
                    (first | go_keep)
                    (first | (go_at_call 10; refine (feed_law now (rd33 l i).2.2.1 (j := 1) (HR2.out.S.pick 1) rfl (by repeat (first | exact Below.refl _ _ | apply below_alloc | apply pw_below_drewN | apply below_drew1)) HFT.out (F_move HF.out.1 (below_step HR2.out.old (by repeat (first | exact Below.refl _ _ | apply below_alloc | apply pw_below_drewN | apply below_drew1)))) HF.out.2.1 (F_move HF.out.2.2.1 (below_step HR2.out.old (by repeat (first | exact Below.refl _ _ | apply below_alloc | apply pw_below_drewN | apply below_drew1)))) HF.out.2.2.2.1 (F_move HF.out.2.2.2.2.1 (below_step HR2.out.old (by repeat (first | exact Below.refl _ _ | apply below_alloc | apply pw_below_drewN | apply below_drew1)))) HF.out.2.2.2.2.2).mono ?_; rintro e w5 ⟨A6, c6, rfl, hq⟩; have e2 := pw_cell_below (Sep.done (hq.pick 3)) HP.out.2.1; have e3 := pw_cell_below (Sep.done (hq.pick 3)) HP.out.2.2.1; have e4 := pw_cell_below (Sep.done (hq.pick 3)) HP.out.2.2.2.1; have HQ := Aside0.mk (Sep.tail hq.swap); clear hq))
                  all_goals
                    go_wp2_with fail
                    go_meet
                    case rel => exact HQ
                case rest =>
                  have q2 := pw_cell_below (Sep.done (hcut.out.pick 2)) HP.out.2.1
                  have q3 := pw_cell_below (Sep.done (hcut.out.pick 2)) HP.out.2.2.1
                  have q4 := pw_cell_below (Sep.done (hcut.out.pick 2)) HP.out.2.2.2.1
                  rename Aside0 (Apart _ _) => HS3
                  go_upto_region 13 with fail
                  go_region_held3 (fun w' => w'.cell? ⟨(ad.add (i.toNat * 6)).block, (ad.add (i.toNat * 6)).off + 2, none⟩ = some (.int .i64 (rd33 l i).2.2.1) ∧ w'.cell? ⟨(ad.add (i.toNat * 6)).block, (ad.add (i.toNat * 6)).off + 3, none⟩ = some (.slice A3 (rd33 l i).2.2.2.1.f0.length c3) ∧ w'.cell? ⟨(ad.add (i.toNat * 6)).block, (ad.add (i.toNat * 6)).off + 4, none⟩ = some (.slice A4 (rd33 l i).2.2.2.1.f1.length c4))
                    (first | go_keep)
                    (first | (go_at_call 10; refine (feed_law now (rd33 l i).2.2.1 (j := 1) (HS3.out.pick 1) rfl (by repeat (first | exact Below.refl _ _ | apply below_alloc | apply pw_below_drewN | apply below_drew1)) HFT.out (F_move HF.out.1 (below_step (Sep.done (HS3.out.pick 2)) (by repeat (first | exact Below.refl _ _ | apply below_alloc | apply pw_below_drewN | apply below_drew1)))) HF.out.2.1 (F_move HF.out.2.2.1 (below_step (Sep.done (HS3.out.pick 2)) (by repeat (first | exact Below.refl _ _ | apply below_alloc | apply pw_below_drewN | apply below_drew1)))) HF.out.2.2.2.1 (F_move HF.out.2.2.2.2.1 (below_step (Sep.done (HS3.out.pick 2)) (by repeat (first | exact Below.refl _ _ | apply below_alloc | apply pw_below_drewN | apply below_drew1)))) HF.out.2.2.2.2.2).mono ?_; rintro e w5 ⟨A6, c6, rfl, hq⟩; have e2 := pw_cell_below (Sep.done (hq.pick 3)) HP.out.2.1; have e3 := pw_cell_below (Sep.done (hq.pick 3)) HP.out.2.2.1; have e4 := pw_cell_below (Sep.done (hq.pick 3)) HP.out.2.2.2.1; have HQ := Aside0.mk (Sep.tail hq.swap); clear hq))
                  all_goals
                    have HFD := Aside0.mk (HR2.out.fed i0 hi HL.out HCM.out (by have := HC12.out; omega) HF.out.2.2.2.2.1 HF.out.2.2.2.2.2 HQ.out)
                    clear HQ HS3 q1 q2 q3 q4 q5
                    go_wp2
                    go_roundg gk
                    case measure => omega
                    case rel => exact ⟨now, A5, c5, (rd33 l i).2.2.2.2, i + 1, _, _, _, rfl, rfl, rfl, ⟨by omega, by omega⟩, HFD⟩
      · obtain ⟨x0, x1, hb0, hl, hc⟩ := HX.out
        have y0 := pw_cell_below HR.out.old ((blk_cell x1 0).trans rfl : W1.cell? ⟨w.heap.size + 1, 0, none⟩ = some (.int .i64 x))
        have y1 := pw_cell_below HR.out.old ((blk_cell x1 1).trans rfl : W1.cell? ⟨w.heap.size + 1, 1, none⟩ = some (.int .i64 y))
        have b0 := pw_cell_below HR.out.old a0
        have b1 := pw_cell_below HR.out.old a1
        have b2 := pw_cell_below HR.out.old a2
        clear x0 x1 hb0 hl hc
        obtain ⟨a, ea⟩ : ∃ a, (if y < x then y else x) = a := ⟨_, rfl⟩
        obtain ⟨b, eb⟩ : ∃ b, (if x < y then y else x) = b := ⟨_, rfl⟩
        have HAB : Aside0 (a ≤ b) := ⟨by subst ea eb; repeat' split
                                         all_goals omega⟩
        go_upto_region 14 with fail
        go_quiet (fail)
        by_cases cb : 1125899906842624 < b
        · have d1 : decide (1125899906842624 < b) = true := decide_eq_true cb
          clear cb
          go_wp2_with (first | (go_at_call 8; refine (sure_any _).mono ?_; rintro e w9 ⟨rfl, hb⟩; have HB9 := Aside0.mk (below_step (below_step HX.out.2.2.1 (below_step HR.out.old (by repeat (first | exact Below.refl _ _ | apply below_alloc | apply pw_below_drewN | apply below_drew1)))) hb); clear hb))
          go_ret
          exact ⟨rfl, HB9.out⟩
        · have d1 : decide (1125899906842624 < b) = false := decide_eq_false cb
          have cb' : b ≤ 1125899906842624 := by omega
          by_cases cm : manyP n t clock b
          · have HM := Aside0.mk (fun (u : World) => (by have := many_any k n t clock b u HR.out.c0 cb'; rw [decide_eq_true cm] at this; exact this : Calls Try.prog 9 #[.agg #[.int .i64 k, .int .i64 n, .bool t], .int .i64 clock, .int .i64 b] u fun e w' => e = .returned (.bool true) ∧ Below u.heap.size u w'))
            clear cb cb' cm
            go_wp2_with (first | (go_at_call 9; refine (HM.out _).mono ?_; rintro e w3 ⟨rfl, hb⟩; have HB3 := Aside0.mk (below_step (below_step HR.out.old (by repeat (first | exact Below.refl _ _ | apply below_alloc | apply pw_below_drewN | apply below_drew1))) hb); clear hb HM) | (go_at_call 8; refine (sure_any _).mono ?_; rintro e w9 ⟨rfl, hb⟩; have HB9 := Aside0.mk (below_step (below_step HX.out.2.2.1 HB3.out) hb); clear hb))
            go_ret
            exact ⟨rfl, HB9.out⟩
          · have HM := Aside0.mk (fun (u : World) => (by have := many_any k n t clock b u HR.out.c0 cb'; rw [decide_eq_false cm] at this; exact this : Calls Try.prog 9 #[.agg #[.int .i64 k, .int .i64 n, .bool t], .int .i64 clock, .int .i64 b] u fun e w' => e = .returned (.bool false) ∧ Below u.heap.size u w'))
            have hfew := few2 HR.out.I (b := b) (by rw [HR.out.hn, HR.out.ht, HR.out.clk]; exact cm)
            obtain ⟨s1, r1, o1, D1, s3, r3, o3, D2, D3, m1, m2, m3, hT⟩ := tail_f HR.out.I HR.out.si HR.out.so HR.out.sa HAB.out cb' hfew
            have HT := Aside0.mk hT
            obtain ⟨nv, hnv⟩ : ∃ nv, (nextD s3 r3 o3).1 = nv := ⟨_, rfl⟩
            obtain ⟨bv, hbv⟩ : ∃ bv, (nextD s3 r3 o3).2 = bv := ⟨_, rfl⟩
            have HNX := Aside0.mk (fun (w W : World) (L L' : List Asr) (g j : Nat) (h : Apart w L) (hj : pick j L = Rt g s3 r3 o3 :: L') (hW : Below w.heap.size w W) => (by have := next_sep h hj hW hT.i3 hT.j3; rw [hnv, hbv] at this; exact this : Calls Try.prog 12 #[.pointer (some ⟨g, 0, none⟩)] W fun e w' => e = .returned (.tuple #[.int .i64 nv, .bool bv]) ∧ Apart w' L))
            clear cb cb' cm hfew hnv hbv hT
            go_wp2_with (first
              | (go_at_call 9; refine (HM.out _).mono ?_; rintro e w3 ⟨rfl, hb⟩; have HR3 := Aside0.mk ((HR.out.below (by repeat (first | exact Below.refl _ _ | apply below_alloc | apply pw_below_drewN | apply below_drew1))).below hb); clear hb HM HR)
              | (go_at_call 11; refine (adv_law' a (j := 1) (HR3.out.S.pick 1) rfl (by repeat (first | exact Below.refl _ _ | apply below_alloc | apply pw_below_drewN | apply below_drew1)) HR3.out.I.g HR3.out.si HR3.out.so HR3.out.F HR3.out.lc HR3.out.sa HT.out.n1 HT.out.e1 HT.out.l1).mono ?_; rintro e w4 ⟨A4, c4, rfl, hq⟩; have HS4 : Aside0 (Apart w4 [Rt g1 s1 r1 o1, Dl (.slice A4 m1 c4) D1, Rt g2 s ri ro, Old W1]) := ⟨hq⟩; have HK3 := HR3; clear hq HR3)
              | (go_at_call 11; refine (adv_law' b (j := 2) HS4.out rfl (by repeat (first | exact Below.refl _ _ | apply below_alloc | apply pw_below_drewN | apply below_drew1)) HT.out.g1 HT.out.i1 HT.out.j1 (F_move2 HK3.out.F HK3.out.old (below_step (Sep.done (HS4.out.pick 3)) (by repeat (first | exact Below.refl _ _ | apply below_alloc | apply pw_below_drewN | apply below_drew1)))) HK3.out.lc HK3.out.sa HT.out.n2 HT.out.e2 HT.out.l2).mono ?_; rintro e w5 ⟨A5, c5, rfl, hq⟩; have HS5 : Aside0 (Apart w5 [Rt g1 s3 r3 o3, Dl (.slice A5 m2 c5) D2, Dl (.slice A4 m1 c4) D1, Rt g2 s ri ro, Old W1]) := ⟨hq⟩; clear hq HS4)
              | ((with_reducible refine gate_builtin (b := .append) (xs := #[.tmp 131, .tmp 135]) rfl ?_); at_builtin; refine app_sep rfl (.tmp 131) (.tmp 135) rfl (A := A4) (n := m1) (c := c4) (A' := A5) (m := m2) (c' := c5) (xs := D1) (ys := D2) (i := 2) (j := 1) rfl rfl HS5.out rfl rfl HT.out.ll ?_; intro A6 c6 w6 hq; rw [HT.out.eD, HT.out.l3] at hq; rw [HT.out.eD, HT.out.l3]; have HS6 : Aside0 (Apart w6 [Dl (.slice A6 m3 c6) D3, Rt g1 s3 r3 o3, Rt g2 s ri ro, Old W1]) := ⟨hq⟩; clear hq HS5)
              | (go_at_call 12; refine (HNX.out _ _ _ _ g1 1 HS6.out rfl (by repeat (first | exact Below.refl _ _ | apply below_alloc | apply pw_below_drewN | apply below_drew1))).mono ?_; rintro e w7 ⟨rfl, hq⟩; have HS7 : Aside0 (Apart w7 [Rt g2 s ri ro, Dl (.slice A6 m3 c6) D3, Rt g1 s3 r3 o3, Old W1]) := ⟨hq.pick 2⟩; clear hq HS6)
              | (go_at_call 11; refine (adv_law' b (j := 2) HS7.out rfl (by repeat (first | exact Below.refl _ _ | apply below_alloc | apply pw_below_drewN | apply below_drew1)) HK3.out.I.g HK3.out.si HK3.out.so (F_move2 HK3.out.F HK3.out.old (below_step (Sep.done (HS7.out.pick 3)) (by repeat (first | exact Below.refl _ _ | apply below_alloc | apply pw_below_drewN | apply below_drew1)))) HK3.out.lc HK3.out.sa HT.out.n3 HT.out.e3 HT.out.l3).mono ?_; rintro e w8 ⟨A8, c8, rfl, hq⟩; have HS8 : Aside0 (Apart w8 [Rt g2 s3 r3 o3, Dl (.slice A8 m3 c8) D3, Dl (.slice A6 m3 c6) D3, Rt g1 s3 r3 o3, Old W1]) := ⟨hq⟩; clear hq HS7)
              | (go_at_call 12; refine (HNX.out _ _ _ _ g2 0 HS8.out rfl (by repeat (first | exact Below.refl _ _ | apply below_alloc | apply pw_below_drewN | apply below_drew1))).mono ?_; rintro e w10 ⟨rfl, hq⟩; have HS9 := Aside0.mk hq; clear hq HS8)
              | (go_at_call 13; refine (same2 (i := 2) (j := 1) HS9.out rfl rfl (by repeat (first | exact Below.refl _ _ | apply below_alloc | apply pw_below_drewN | apply below_drew1)) HT.out.sD).mono ?_; rintro e w11 ⟨rfl, hq⟩; have HS10 := Aside0.mk hq; clear hq HS9)
              | (go_at_call 8; refine (sure_any _).mono ?_; rintro e w12 ⟨rfl, hb⟩; have HB12 := Aside0.mk (below_step (below_step HX.out.2.2.1 (Sep.done (HS10.out.pick 4))) hb); clear hb HS10))
            go_ret
            exact ⟨by simp, HB12.out⟩
end Go.Proofs.Yteklabhmmfklbaa
