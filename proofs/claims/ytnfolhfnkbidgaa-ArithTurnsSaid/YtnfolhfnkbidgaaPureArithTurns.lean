/-
  A whole number as a decimal and back is the same, and a decimal as a whole number is the one without its fraction, for every number (marqueelaw02.ArithTurns is true at every input); no condition.
-/
import Derived.Test.YtnfolhfnkbidgaaPlTurns
namespace Go.Proofs.Ytnfolhfnkbidgaa.Pure
open Go.RowKit Go.Proofs.Ytnfolhfnkbidgaa Go.Proofs.Ytnfolhfnkbidgaa.Print Go.Proofs.YtnfolhfnkbidgaaW.PrintWords Go.Proofs.YtnfolhfnkbidgaaW.PrintLast Go.Proofs.YtnfolhfnkbidgaaW.PrintMore
set_option maxRecDepth 100000 in
theorem sureT_200 : marqueelaw02_sure.f 200 = some true := by kernel_rfl
theorem sureT_ev : Ev (fun k => marqueelaw02_sure.f k) true := Ev.of marqueelaw02_sure.mono sureT_200
theorem i64_ofT {n : Int} (h : (Lit.int .i64 n).wf = true) : i64 n := by
  simp [Lit.wf, IntKind.min, IntKind.max, IntKind.signed, IntKind.bits] at h
  unfold i64
  omega
theorem quo_ten (n : Int) : quo n 10000 1 = n * 10000 := by
  unfold quo
  rw [show (10000 : Int).natAbs = 10000 from rfl, show (1 : Int).natAbs = 1 from rfl, Nat.div_one]
  by_cases c : n < 0
  · rw [decide_eq_true c, if_pos (by decide)]; omega
  · rw [decide_eq_false c, if_neg (by decide)]; omega
theorem tdiv_i64 {n : Int} (h : i64 n) : i64 (Int.tdiv n 10000) := by
  unfold i64 at h ⊢
  have e : Int.tdiv n 10000 = if n < 0 then -((-n) / 10000) else n / 10000 := by
    by_cases c : n < 0
    · rw [if_pos c, show n = -(-n) by omega, Int.neg_tdiv, Int.tdiv_eq_ediv_of_nonneg (by omega)]; simp
    · rw [if_neg c, Int.tdiv_eq_ediv_of_nonneg (by omega)]
  rw [e]
  split <;> omega
theorem tail_ev (n : Int) (hi : i64 n) : Ev (fun k => marqueelaw02_ArithTurns.j0 k n) true := by
  have hv : toInt 3 n = (2, Int.tdiv n 10000, E, 0) := by
    unfold toInt
    rw [if_neg (by decide), if_pos rfl, w64 (tdiv_i64 hi)]
  have h1 := toInt_ev 3 n E
  rw [hv] at h1
  refine Ev.step (fun k => by rw [marqueelaw02_ArithTurns.j0]; unfold marqueelaw02_dec.f marqueelaw02_num.f; rfl) (Ev.bind (g := fun _ => some ((3 : Int), n, E)) (Ev.now _) (Ev.bind h1 ?_))
  refine Ev.congr (f := fun k => (marqueelaw02_sure.f k).bind fun t => some t) (fun k => ?_) (Ev.bind sureT_ev (Ev.now _))
  show (if (0 : Int) = 0 then _ else _) = _
  rw [if_pos rfl, Option.bind_some, w64 (tdiv_i64 hi)]
  have hb : ((2 : Int) == 2 && (Int.tdiv n 10000 == Int.tdiv n 10000 && (E.toList == E.toList))) = true := by simp
  exact if_pos hb
def afterInt (n x : Int) (k : Nat) (b : Val) : Option Bool := if b.2.2.2 = 0 then (if (!(b.1 == 2) || (!(b.2.1 == n) || (!(b.2.2.1.toList == E.toList)))) = true then none else if wrap64 (Int.tdiv x 10000) = n then marqueelaw02_ArithTurns.j0 k n else none) else none
def afterDec (n : Int) (k : Nat) (v : Val) : Option Bool := if v.2.2.2 = 0 then (arith_Int.f k v.1 v.2.1 v.2.2.1).bind (afterInt n v.2.1 k) else if v.2.2.2 = 20 then (if n > -900000000000000 then (if n < 900000000000000 then none else marqueelaw02_ArithTurns.j0 k n) else marqueelaw02_ArithTurns.j0 k n) else none
theorem turns_eq (n : Int) (k : Nat) : marqueelaw02_ArithTurns.f k n = (arith_Dec.f k 2 n E).bind (afterDec n k) := by
  unfold marqueelaw02_ArithTurns.f marqueelaw02_num.f
  rfl
theorem ArithTurns : marqueelaw02_ArithTurns.Pure := by
  intro n hn
  have hi := i64_ofT hn
  have h1 := toDec_ev 2 n E hi
  refine Ev.rounds (Ev.congr (fun k => turns_eq n k) (Ev.bind h1 ?_))
  have e0 : toDec 2 n = ofV 3 (md n 10000 1) := by unfold toDec decV; rw [if_neg (by decide), if_neg (show ¬ (2 : Int) = 3 by decide)]
  rw [e0]
  by_cases c : i64 (n * 10000)
  · have hv : ofV 3 (md n 10000 1) = (3, n * 10000, E, 0) := by
      rw [md_ok _ _ _ (by decide) (by rw [quo_ten]; exact c), quo_ten]
      unfold ofV
      exact if_pos rfl
    rw [hv]
    have ht : Int.tdiv (n * 10000) 10000 = n := Int.mul_tdiv_cancel n (by decide)
    have h2 := toInt_ev 3 (n * 10000) E
    have hv2 : toInt 3 (n * 10000) = (2, n, E, 0) := by
      unfold toInt
      rw [if_neg (by decide), if_pos rfl, ht, w64 hi]
    rw [hv2] at h2
    have e1 : ∀ k, afterDec n k (3, n * 10000, E, 0) = (arith_Int.f k 3 (n * 10000) E).bind (afterInt n (n * 10000) k) := fun k => by
      unfold afterDec
      exact if_pos rfl
    refine Ev.congr e1 (Ev.bind h2 ?_)
    have e2 : ∀ k, afterInt n (n * 10000) k (2, n, E, 0) = marqueelaw02_ArithTurns.j0 k n := fun k => by
      unfold afterInt
      have hb : ¬ (!((2 : Int) == 2) || (!(n == n) || (!(E.toList == E.toList)))) = true := by simp
      rw [if_pos (show ((2, n, E, 0) : Val).2.2.2 = 0 from rfl), if_neg hb, ht, w64 hi, if_pos rfl]
    exact Ev.congr e2 (tail_ev n hi)
  · have hv : ofV 3 (md n 10000 1) = (0, 0, E, 20) := by
      unfold ofV
      rw [md_bad _ _ _ (by decide) (by rw [quo_ten]; exact c)]
      exact if_neg (by decide)
    rw [hv]
    unfold i64 at c
    have hi' := hi
    unfold i64 at hi'
    have e1 : ∀ k, afterDec n k (0, 0, E, 20) = marqueelaw02_ArithTurns.j0 k n := fun k => by
      unfold afterDec
      rw [if_neg (show ¬ ((0, 0, E, 20) : Val).2.2.2 = 0 by decide), if_pos (show ((0, 0, E, 20) : Val).2.2.2 = 20 from rfl)]
      by_cases c1 : n > -900000000000000
      · rw [if_pos c1, if_neg (by omega)]
      · rw [if_neg c1]
    exact Ev.congr e1 (tail_ev n hi)
end Go.Proofs.Ytnfolhfnkbidgaa.Pure
