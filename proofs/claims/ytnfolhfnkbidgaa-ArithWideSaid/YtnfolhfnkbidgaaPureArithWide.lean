/-
  A product of decimals that is wider than a number, divided again, is what it was, for every number (marqueelaw02.ArithWide is true at every input); no condition.
-/
import Derived.Test.YtnfolhfnkbidgaaPx7
import Derived.Test.YtnfolhfnkbidgaaPlMd
namespace Go.Proofs.Ytnfolhfnkbidgaa.Pure
open Go.RowKit Go.Proofs.Ytnfolhfnkbidgaa Go.Proofs.Ytnfolhfnkbidgaa.Print Go.Proofs.YtnfolhfnkbidgaaW.PrintWords Go.Proofs.YtnfolhfnkbidgaaW.PrintLast Go.Proofs.YtnfolhfnkbidgaaW.PrintMore
set_option maxRecDepth 100000 in
theorem sure_200 : marqueelaw02_sure.f 200 = some true := by kernel_rfl
theorem sure_ev : Ev (fun k => marqueelaw02_sure.f k) true := Ev.of marqueelaw02_sure.mono sure_200
theorem i64_of {n : Int} (h : (Lit.int .i64 n).wf = true) : i64 n := by
  simp [Lit.wf, IntKind.min, IntKind.max, IntKind.signed, IntKind.bits] at h
  unfold i64
  omega
theorem mul3 (n m : Int) (h : i64 (quo n m 10000)) : mulV 3 n 3 m = (3, quo n m 10000, E, 0) := by
  unfold mulV
  rw [if_neg (by decide), if_pos ⟨rfl, rfl⟩, md_ok _ _ _ (by decide) h]
  rfl
theorem quo_same (n : Int) : quo n 10000 10000 = n := by
  unfold quo
  rw [show (10000 : Int).natAbs = 10000 from rfl, Nat.mul_div_cancel _ (by decide)]
  by_cases c : n < 0
  · rw [decide_eq_true c, if_pos (by decide)]; omega
  · rw [decide_eq_false c, if_neg (by decide)]; omega
theorem ArithWide : marqueelaw02_ArithWide.Pure := by
  intro n hn
  have hi := i64_of hn
  have hi' := hi
  unfold i64 at hi'
  -- a half
  obtain ⟨h, hh, hh1⟩ : ∃ h, quo n 5000 10000 = h ∧ (2 * h = n ∨ 2 * h = n - 1 ∧ 0 < n ∨ 2 * h = n + 1 ∧ n < 0) := by
    refine ⟨_, rfl, ?_⟩
    unfold quo
    rw [show (10000 : Int).natAbs = 10000 from rfl, show (5000 : Int).natAbs = 5000 from rfl]
    have e : n.natAbs * 5000 / 10000 = n.natAbs / 2 := by omega
    rw [e]
    by_cases c : n < 0
    · rw [decide_eq_true c, if_pos (by decide)]; omega
    · rw [decide_eq_false c, if_neg (by decide)]; omega
  have hhi : i64 h := ⟨by omega, by omega⟩
  have m1 := mul_ev 3 n E 3 10000 E hi (i64_small (by omega))
  rw [mul3 n 10000 (by rw [quo_same]; exact hi), quo_same] at m1
  have m2 := mul_ev 3 n E 3 5000 E hi (i64_small (by omega))
  rw [mul3 n 5000 (by rw [hh]; exact hhi), hh] at m2
  have d1 := div_ev 3 n E 3 10000 E hi (i64_small (by omega))
  have dv : divV 3 n 3 10000 = (3, n, E, 0) := by
    unfold divV
    rw [if_neg (by decide), if_neg (by decide), if_neg (by decide), if_pos (show (decsV 3 n 3 10000).2.2 = true from rfl)]
    show ofV 3 (md n 10000 10000) = _
    rw [md_ok _ _ _ (by decide) (by rw [quo_same]; exact hi), quo_same]
    rfl
  rw [dv] at d1
  have a1 := add_ev 3 h E 3 h E hhi hhi
  have av : twoV addV 3 h 3 h = (3, 2 * h, E, 0) := by
    unfold twoV
    rw [if_neg (by decide), if_neg (by decide), if_pos (show (decsV 3 h 3 h).2.2 = true from rfl)]
    show ofV 3 (addV h h) = _
    have : addV h h = (2 * h, true) := by
      unfold addV
      rw [w64 ⟨by omega, by omega⟩]
      have e : h + h = 2 * h := by omega
      rw [e]
      congr 1
      by_cases c : h < 0
      · rw [decide_eq_true c, decide_eq_true (show 2 * h < 0 by omega)]; rfl
      · rw [decide_eq_false c, decide_eq_false (show ¬ 2 * h < 0 by omega)]; rfl
    rw [this]
    rfl
  rw [av] at a1
  have s1 := sub_ev 3 n E 3 (2 * h) E hi ⟨by omega, by omega⟩
  obtain ⟨z, hz, hz1, hz2⟩ : ∃ z, twoV subV 3 n 3 (2 * h) = (3, z, E, 0) ∧ -1 ≤ z ∧ z ≤ 1 := by
    refine ⟨n - 2 * h, ?_, by omega, by omega⟩
    unfold twoV
    rw [if_neg (by decide), if_neg (by decide), if_pos (show (decsV 3 n 3 (2 * h)).2.2 = true from rfl)]
    show ofV 3 (subV n (2 * h)) = _
    have : subV n (2 * h) = (n - 2 * h, true) := by
      unfold subV
      rw [w64 ⟨by omega, by omega⟩]
      congr 1
      by_cases c : n < 0
      · by_cases c2 : 2 * h < 0
        · rw [decide_eq_true c, decide_eq_true c2]; rfl
        · rw [decide_eq_true c, decide_eq_false c2, decide_eq_true (show n - 2 * h < 0 by omega)]; rfl
      · by_cases c2 : 2 * h < 0
        · exfalso; omega
        · rw [decide_eq_false c, decide_eq_false c2]; rfl
    rw [this]
    rfl
  rw [hz] at s1
  refine Ev.rounds (Ev.congr (fun k => by unfold marqueelaw02_ArithWide.f marqueelaw02_dec.f; rfl) (Ev.bind (g := fun _ => some ((3 : Int), n, E)) (Ev.now _) (Ev.bind (g := fun _ => some ((3 : Int), (10000 : Int), E)) (Ev.now _) (Ev.bind m1 (Ev.bind (g := fun _ => some ((3 : Int), (10000 : Int), E)) (Ev.now _) (Ev.bind d1 (Ev.bind (g := fun _ => some ((3 : Int), (5000 : Int), E)) (Ev.now _) (Ev.bind m2 (Ev.bind a1 (Ev.bind s1 ?_))))))))))
  refine Ev.congr (f := fun k => (marqueelaw02_sure.f k).bind fun t => some t) (fun k => ?_) (Ev.bind sure_ev (Ev.now _))
  have hb : ((3 : Int) == 3 && (n == n && (E.toList == E.toList))) = true := by simp
  show (if (0 : Int) = 0 then _ else _) = _
  rw [if_pos rfl, if_pos hb, if_pos rfl, if_pos hb, if_pos rfl, if_pos rfl, if_pos rfl, if_pos hz1, if_pos hz2]
end Go.Proofs.Ytnfolhfnkbidgaa.Pure
