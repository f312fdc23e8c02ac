import Derived.Test.YtnfolhfnkbidgaaPx8
import Derived.Test.YtnfolhfnkbidgaaPlMd
namespace Go.Proofs.Ytnfolhfnkbidgaa
open Go.RowKit Print Go.Proofs.YtnfolhfnkbidgaaW.PrintWords Go.Proofs.YtnfolhfnkbidgaaW.PrintMore
theorem arith_two_35.j0_eq (k : Nat) (x9 : Int) (x27 : Bool) (x372000 : Int) (x372001 : Int) (x372002 : ByteArray) (x373000 : Int) (x373001 : Int) (x373002 : ByteArray) : arith_two_35.j0 (k + 1) x9 x27 x372000 x372001 x372002 x373000 x373001 x373002 = if x27 = true then (some (0, 0, (⟨#[]⟩ : ByteArray), x9)) else (if x372000 = 2 then (arith_two_35.j1 k (x373000 == 2) x372000 x372001 x372002 x373000 x373001 x373002) else (arith_two_35.j1 k false x372000 x372001 x372002 x373000 x373001 x373002)) := by
  rw [arith_two_35.j0]
theorem arith_two_35.j1_eq (k : Nat) (x37 : Bool) (x372000 : Int) (x372001 : Int) (x372002 : ByteArray) (x373000 : Int) (x373001 : Int) (x373002 : ByteArray) : arith_two_35.j1 (k + 1) x37 x372000 x372001 x372002 x373000 x373001 x373002 = if x37 = true then ((arith_left.f x372001 x373001).bind fun bt379 => ((arith_of.f 2 bt379.1 bt379.2).bind fun bt381 => (some (bt381.1, bt381.2.1, bt381.2.2.1, bt381.2.2.2)))) else ((arith_decs.f k x372000 x372001 x372002 x373000 x373001 x373002).bind fun bt385 => (if bt385.2.2 = true then ((arith_left.f bt385.1 bt385.2.1).bind fun bt388 => ((arith_of.f 3 bt388.1 bt388.2).bind fun bt390 => (some (bt390.1, bt390.2.1, bt390.2.2.1, bt390.2.2.2)))) else (some (0, 0, (⟨#[]⟩ : ByteArray), 20)))) := by
  rw [arith_two_35.j1]
/-- The quotient towards zero. -/
theorem quo_tdiv (a b d : Int) : quo a b d = Int.tdiv (a * b) d := by
  unfold quo
  have key : ∀ (A B D : Nat), Int.tdiv ((A : Int) * (B : Int)) (D : Int) = ((A * B / D : Nat) : Int) := fun A B D => by
    rw [← Int.natCast_mul, ← Int.ofNat_tdiv]
  by_cases ha : a < 0
  · obtain ⟨A, rfl⟩ : ∃ A : Nat, a = -(A : Int) := ⟨a.natAbs, by omega⟩
    by_cases hb : b < 0
    · obtain ⟨B, rfl⟩ : ∃ B : Nat, b = -(B : Int) := ⟨b.natAbs, by omega⟩
      by_cases hd : d < 0
      · obtain ⟨D, rfl⟩ : ∃ D : Nat, d = -(D : Int) := ⟨d.natAbs, by omega⟩
        rw [decide_eq_true ha, decide_eq_true hb, decide_eq_true hd, if_pos (by decide), Int.natAbs_neg, Int.natAbs_neg, Int.natAbs_neg, Int.natAbs_natCast, Int.natAbs_natCast, Int.natAbs_natCast, Int.neg_mul_neg, Int.tdiv_neg, key]
      · obtain ⟨D, rfl⟩ : ∃ D : Nat, d = (D : Int) := ⟨d.natAbs, by omega⟩
        rw [decide_eq_true ha, decide_eq_true hb, decide_eq_false hd, if_neg (by decide), Int.natAbs_neg, Int.natAbs_neg, Int.natAbs_natCast, Int.natAbs_natCast, Int.natAbs_natCast, Int.neg_mul_neg, key]
    · obtain ⟨B, rfl⟩ : ∃ B : Nat, b = (B : Int) := ⟨b.natAbs, by omega⟩
      by_cases hd : d < 0
      · obtain ⟨D, rfl⟩ : ∃ D : Nat, d = -(D : Int) := ⟨d.natAbs, by omega⟩
        rw [decide_eq_true ha, decide_eq_false hb, decide_eq_true hd, if_neg (by decide), Int.natAbs_neg, Int.natAbs_neg, Int.natAbs_natCast, Int.natAbs_natCast, Int.natAbs_natCast, Int.neg_mul, Int.neg_tdiv_neg, key]
      · obtain ⟨D, rfl⟩ : ∃ D : Nat, d = (D : Int) := ⟨d.natAbs, by omega⟩
        rw [decide_eq_true ha, decide_eq_false hb, decide_eq_false hd, if_pos (by decide), Int.natAbs_neg, Int.natAbs_natCast, Int.natAbs_natCast, Int.natAbs_natCast, Int.neg_mul, Int.neg_tdiv, key]
  · obtain ⟨A, rfl⟩ : ∃ A : Nat, a = (A : Int) := ⟨a.natAbs, by omega⟩
    by_cases hb : b < 0
    · obtain ⟨B, rfl⟩ : ∃ B : Nat, b = -(B : Int) := ⟨b.natAbs, by omega⟩
      by_cases hd : d < 0
      · obtain ⟨D, rfl⟩ : ∃ D : Nat, d = -(D : Int) := ⟨d.natAbs, by omega⟩
        rw [decide_eq_false ha, decide_eq_true hb, decide_eq_true hd, if_neg (by decide), Int.natAbs_neg, Int.natAbs_neg, Int.natAbs_natCast, Int.natAbs_natCast, Int.natAbs_natCast, Int.mul_neg, Int.neg_tdiv_neg, key]
      · obtain ⟨D, rfl⟩ : ∃ D : Nat, d = (D : Int) := ⟨d.natAbs, by omega⟩
        rw [decide_eq_false ha, decide_eq_true hb, decide_eq_false hd, if_pos (by decide), Int.natAbs_neg, Int.natAbs_natCast, Int.natAbs_natCast, Int.natAbs_natCast, Int.mul_neg, Int.neg_tdiv, key]
    · obtain ⟨B, rfl⟩ : ∃ B : Nat, b = (B : Int) := ⟨b.natAbs, by omega⟩
      by_cases hd : d < 0
      · obtain ⟨D, rfl⟩ : ∃ D : Nat, d = -(D : Int) := ⟨d.natAbs, by omega⟩
        rw [decide_eq_false ha, decide_eq_false hb, decide_eq_true hd, if_pos (by decide), Int.natAbs_neg, Int.natAbs_natCast, Int.natAbs_natCast, Int.natAbs_natCast, Int.tdiv_neg, key]
      · obtain ⟨D, rfl⟩ : ∃ D : Nat, d = (D : Int) := ⟨d.natAbs, by omega⟩
        rw [decide_eq_false ha, decide_eq_false hb, decide_eq_false hd, if_neg (by decide), Int.natAbs_natCast, Int.natAbs_natCast, Int.natAbs_natCast, key]
theorem quo_one (a b : Int) : quo a b 1 = a * b := by rw [quo_tdiv, Int.tdiv_one]
/-- A number as ten-thousandths. -/
theorem decV_ok (k n : Int) (hk : k ≠ 3) (h : i64 (n * 10000)) : decV k n = (n * 10000, true) := by
  unfold decV
  rw [if_neg hk, md_ok n 10000 1 (by decide) (by rw [quo_one]; exact h), quo_one]
theorem decV_bad (k n : Int) (hk : k ≠ 3) (h : ¬ i64 (n * 10000)) : (decV k n).2 = false := by
  unfold decV
  rw [if_neg hk]
  exact md_bad n 10000 1 (by decide) (by rw [quo_one]; exact h)
theorem decV_three (n : Int) : decV 3 n = (n, true) := by
  unfold decV
  exact if_pos rfl
theorem decV_ne {k n : Int} (hn : n ≠ 0) (h : (decV k n).2 = true) : (decV k n).1 ≠ 0 := by
  by_cases hk : k = 3
  · subst hk; rw [decV_three]; exact hn
  · by_cases hi : i64 (n * 10000)
    · rw [decV_ok k n hk hi]
      show n * 10000 ≠ 0
      omega
    · rw [decV_bad k n hk hi] at h
      cases h
theorem dec_ne {ka na kb nb : Int} (hn : nb ≠ 0) (h : (decsV ka na kb nb).2.2 = true) : (decsV ka na kb nb).2.1 ≠ 0 := by
  have h' : ((decV ka na).2 && (decV kb nb).2) = true := h
  rw [Bool.and_eq_true] at h'
  exact decV_ne hn h'.2
def leftV (a b : Int) : Int × Bool := (if b = -1 then 0 else Int.tmod a b, true)
theorem left_eq (a b : Int) (h : b ≠ 0) : arith_left.f a b = some (leftV a b) := by
  unfold arith_left.f leftV
  by_cases c : b = -1
  · rw [if_pos c, if_pos c]
  · rw [if_neg c, if_neg c, if_neg h]
theorem two35_ev (ka na : Int) (ta : ByteArray) (kb nb : Int) (tb : ByteArray) (ha : i64 na) (hb : i64 nb) (hn : nb ≠ 0) : Ev (fun k => arith_two_35.f k ka na ta kb nb tb) (twoV leftV ka na kb nb) := by
  have hq := asked2_ev ⟨ka, na, ta⟩ ⟨kb, nb, tb⟩
  unfold twoV
  refine Ev.congr (fun k => by unfold arith_two_35.f; rfl) (Ev.bind hq ?_)
  generalize ask ka kb = q
  obtain ⟨qb, qe⟩ := q
  show Ev (fun k => if qe = 0 then arith_two_35.j0 k qe qb ka na ta kb nb tb else arith_two_35.j0 k qe true ka na ta kb nb tb) (if qe ≠ 0 ∨ qb = true then (0, 0, E, qe) else _)
  by_cases c : qe ≠ 0 ∨ qb = true
  · rw [if_pos c]
    refine Ev.stops (fun k => ?_)
    by_cases c0 : qe = 0
    · have hb' : qb = true := c.elim (fun h => absurd c0 h) id
      rw [if_pos c0, arith_two_35.j0_eq, if_pos hb']; rfl
    · rw [if_neg c0, arith_two_35.j0_eq, if_pos rfl]; rfl
  · rw [if_neg c]
    have c0 : qe = 0 := by
      by_cases h : qe = 0
      · exact h
      · exact absurd (.inl h) c
    have c1 : qb = false := by
      cases h : qb
      · rfl
      · exact absurd (.inr h) c
    subst c0 c1
    have j0 : ∀ k, arith_two_35.j0 (k + 1) 0 false ka na ta kb nb tb = arith_two_35.j1 k (decide (ka = 2 ∧ kb = 2)) ka na ta kb nb tb := fun k => by
      rw [arith_two_35.j0_eq, if_neg (by decide)]
      by_cases h3 : ka = 2
      · rw [if_pos h3]
        congr 1
        by_cases h4 : kb = 2
        · subst h3 h4; rfl
        · have : (kb == 2) = false := by simpa using h4
          rw [this, decide_eq_false (fun h => h4 h.2)]
      · rw [if_neg h3, decide_eq_false (fun h => h3 h.1)]
    refine Ev.congr (fun k => by rw [if_pos rfl]) (Ev.next ?_ j0)
    by_cases c3 : ka = 2 ∧ kb = 2
    · rw [if_pos c3, decide_eq_true c3]
      refine Ev.stops (fun k => ?_)
      rw [arith_two_35.j1_eq, if_pos rfl, left_eq _ _ hn, Option.bind_some, of_eq, Option.bind_some]
    · rw [if_neg c3, decide_eq_false c3]
      refine Ev.step (fun k => by rw [arith_two_35.j1_eq, if_neg (by decide)]) (Ev.bind (decs_ev ka na ta kb nb tb ha hb) ?_)
      refine Ev.congr (fun k => ?_) (Ev.now _)
      by_cases c4 : (decsV ka na kb nb).2.2 = true
      · rw [if_pos c4, if_pos c4, left_eq _ _ (dec_ne hn c4), Option.bind_some, of_eq, Option.bind_some]; rfl
      · rw [if_neg c4, if_neg c4]; rfl
/-- What is left over. -/
def modV (ka na kb nb : Int) : Val :=
  if (ask ka kb).2 ≠ 0 ∨ (ask ka kb).1 = true then (0, 0, E, (ask ka kb).2)
  else if nb = 0 then (0, 0, E, 21) else twoV leftV ka na kb nb
theorem mod_ev (ka na : Int) (ta : ByteArray) (kb nb : Int) (tb : ByteArray) (ha : i64 na) (hb : i64 nb) : Ev (fun k => arith_Mod.f k ka na ta kb nb tb) (modV ka na kb nb) := by
  refine Ev.congr (f := fun k => (arith_zero.f k ka na ta kb nb tb).bind fun t => if t.2 = 0 then (if t.1 = true then some ((0 : Int), (0 : Int), E, t.2) else (arith_two_35.f k ka na ta kb nb tb).bind fun v => some v) else some ((0 : Int), (0 : Int), E, t.2)) (fun k => by unfold arith_Mod.f; rfl) (Ev.bind (zero_ev ka na ta kb nb tb) ?_)
  by_cases c : (ask ka kb).2 ≠ 0 ∨ (ask ka kb).1 = true
  · rw [show zeroV ka kb nb = ask ka kb from if_neg (fun h => c.elim (fun h' => h' h.1) (fun h' => by rw [h'] at h; cases h.2.1)), show modV ka na kb nb = (0, 0, E, (ask ka kb).2) from if_pos c]
    refine Ev.congr (fun k => ?_) (Ev.now _)
    by_cases c0 : (ask ka kb).2 = 0
    · rw [if_pos c0, if_pos (c.resolve_left (fun h => h c0))]
    · rw [if_neg c0]
  · have c0 : (ask ka kb).2 = 0 := Classical.byContradiction (fun h => c (.inl h))
    have c1 : (ask ka kb).1 = false := by
      cases h : (ask ka kb).1
      · rfl
      · exact absurd (.inr h) c
    by_cases hn : nb = 0
    · rw [show zeroV ka kb nb = ((ask ka kb).1, 21) from if_pos ⟨c0, c1, hn⟩, show modV ka na kb nb = (0, 0, E, 21) by unfold modV; rw [if_neg c, if_pos hn]]
      exact Ev.congr (fun k => if_neg (show ¬ (21 : Int) = 0 by decide)) (Ev.now _)
    · rw [show zeroV ka kb nb = ask ka kb from if_neg (fun h => hn h.2.2), show modV ka na kb nb = twoV leftV ka na kb nb by unfold modV; rw [if_neg c, if_neg hn]]
      refine Ev.congr (f := fun k => (arith_two_35.f k ka na ta kb nb tb).bind fun v => some v) (fun k => ?_) (Ev.bind (two35_ev ka na ta kb nb tb ha hb hn) (Ev.now _))
      rw [if_pos c0, if_neg (by rw [c1]; decide)]
end Go.Proofs.Ytnfolhfnkbidgaa
