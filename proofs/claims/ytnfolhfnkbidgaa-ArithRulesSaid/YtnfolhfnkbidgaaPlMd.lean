import Derived.Test.YtnfolhfnkbidgaaPlArith
namespace Go.Proofs.Ytnfolhfnkbidgaa
open Go.RowKit Print Go.Proofs.YtnfolhfnkbidgaaW.PrintWords Go.Proofs.YtnfolhfnkbidgaaW.PrintMore
/-- The quotient, towards zero, with its sign. -/
def quo (a b d : Int) : Int := if (((decide (a < 0)) != (decide (b < 0))) != (decide (d < 0))) = true then -((a.natAbs * b.natAbs / d.natAbs : Nat) : Int) else ((a.natAbs * b.natAbs / d.natAbs : Nat) : Int)
theorem md_ok (a b d : Int) (hd : d ≠ 0) (h : i64 (quo a b d)) : md a b d = (quo a b d, true) := by
  unfold quo at h ⊢
  unfold md
  generalize (((decide (a < 0)) != (decide (b < 0))) != (decide (d < 0))) = neg at h ⊢
  obtain ⟨P, hP⟩ : ∃ P, a.natAbs * b.natAbs = P := ⟨_, rfl⟩
  obtain ⟨D, hD⟩ : ∃ D, d.natAbs = D := ⟨_, rfl⟩
  have hD0 : 0 < D := by omega
  rw [hP, hD] at h ⊢
  have hlt : ¬ D ≤ P / 18446744073709551616 := by
    intro hc
    have : D * 18446744073709551616 ≤ P := (Nat.le_div_iff_mul_le (by decide)).1 hc
    have : 18446744073709551616 ≤ P / D := by rw [Nat.le_div_iff_mul_le hD0]; omega
    unfold i64 at h
    cases neg
    · rw [if_neg (by decide)] at h; omega
    · rw [if_pos rfl] at h; omega
  rw [if_neg hlt]
  obtain ⟨q, hq⟩ : ∃ q, P / D = q := ⟨_, rfl⟩
  rw [hq] at h ⊢
  unfold i64 at h
  by_cases h0 : q = 0
  · subst h0
    rw [if_pos rfl]
    cases neg <;> rfl
  · rw [if_neg h0]
    cases neg
    · rw [if_neg (by decide)] at h
      rw [if_neg (by decide), if_neg (by decide), w64 ⟨by omega, by omega⟩, decide_eq_true (by omega)]
    · rw [if_pos rfl] at h
      rw [if_pos rfl, if_pos rfl, uw, decide_eq_true (by omega)]
      congr 1
      unfold wrap64
      omega
theorem md_bad (a b d : Int) (hd : d ≠ 0) (h : ¬ i64 (quo a b d)) : (md a b d).2 = false := by
  unfold quo at h
  unfold md
  generalize (((decide (a < 0)) != (decide (b < 0))) != (decide (d < 0))) = neg at h ⊢
  obtain ⟨P, hP⟩ : ∃ P, a.natAbs * b.natAbs = P := ⟨_, rfl⟩
  obtain ⟨D, hD⟩ : ∃ D, d.natAbs = D := ⟨_, rfl⟩
  rw [hP, hD] at h ⊢
  by_cases hlt : D ≤ P / 18446744073709551616
  · rw [if_pos hlt]
  · rw [if_neg hlt]
    obtain ⟨q, hq⟩ : ∃ q, P / D = q := ⟨_, rfl⟩
    rw [hq] at h ⊢
    unfold i64 at h
    by_cases h0 : q = 0
    · subst h0
      exfalso
      apply h
      cases neg
      · rw [if_neg (by decide)]; omega
      · rw [if_pos rfl]; omega
    · rw [if_neg h0]
      cases neg
      · rw [if_neg (by decide)] at h
        rw [if_neg (by decide)]
        have hx : ¬ ((q : Int) < 9223372036854775808) := by omega
        rw [decide_eq_false hx]
      · rw [if_pos rfl] at h
        rw [if_pos rfl]
        have hx : ¬ ((q : Int) ≤ 9223372036854775808) := by omega
        rw [decide_eq_false hx]
end Go.Proofs.Ytnfolhfnkbidgaa
