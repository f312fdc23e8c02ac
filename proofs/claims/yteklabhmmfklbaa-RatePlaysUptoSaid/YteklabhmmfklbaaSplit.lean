import Derived.Test.YteklabhmmfklbaaFeedL
namespace Go.Proofs.Yteklabhmmfklbaa
open Go.RowKit Print Go.Proofs.YteklabhmmfklbaaW.PrintWords Go.Proofs.YteklabhmmfklbaaW.PrintLast Go.Proofs.YteklabhmmfklbaaW.PrintMore
set_option linter.unusedVariables false
/-! ### Time that goes on in two steps -/
theorem advL_stop (f : Nat) {s : St} (h : s.clock < s.border) (ri ro all : RowsL) (acc : List S43) : advL f s ri ro all acc = (s, ri, ro, acc) := by
  cases f with
  | zero => rfl
  | succ f => simp only [advL]; rw [if_pos h]
theorem advL_fuel (f : Nat) : ∀ (g : Nat) (s : St) (ri ro all : RowsL) (acc : List S43), 1 ≤ s.n → s.clock + 1 - s.border ≤ (f : Int) * s.n → s.clock + 1 - s.border ≤ (g : Int) * s.n → advL f s ri ro all acc = advL g s ri ro all acc := by
  induction f with
  | zero =>
    intro g s ri ro all acc hn hf hg
    have : s.clock < s.border := by simp at hf; omega
    rw [advL_stop _ this, advL_stop _ this]
  | succ f ih =>
    intro g s ri ro all acc hn hf hg
    by_cases h : s.clock < s.border
    · rw [advL_stop _ h, advL_stop _ h]
    · cases g with
      | zero => simp at hg; omega
      | succ g =>
        simp only [advL]
        rw [if_neg h, if_neg h]
        by_cases hz : nothing s ri ro all
        · rw [if_pos hz, if_pos hz]
        · rw [if_neg hz, if_neg hz]
          exact ih g { s with told := false, border := s.border + s.n } [] [] all _ hn (loop_fuel hf) (loop_fuel hg)
theorem advL_acc (f : Nat) : ∀ (s : St) (ri ro all : RowsL) (acc : List S43), advL f s ri ro all acc = ((advL f s ri ro all []).1, (advL f s ri ro all []).2.1, (advL f s ri ro all []).2.2.1, acc ++ (advL f s ri ro all []).2.2.2) := by
  induction f with
  | zero => intro s ri ro all acc; simp [advL]
  | succ f ih =>
    intro s ri ro all acc
    simp only [advL]
    by_cases h : s.clock < s.border
    · rw [if_pos h, if_pos h]; simp
    · rw [if_neg h, if_neg h]
      by_cases hz : nothing s ri ro all
      · rw [if_pos hz, if_pos hz]; simp
      · rw [if_neg hz, if_neg hz, ih _ _ _ _ (acc ++ _), ih _ _ _ _ ([] ++ _)]
        simp
theorem div_bounds {a n : Int} (hn : 1 ≤ n) : a / n * n ≤ a ∧ a < a / n * n + n := by
  have h1 := Int.mul_ediv_add_emod a n
  have h2 := Int.emod_nonneg a (show n ≠ 0 by omega)
  have h3 := Int.emod_lt_of_pos a (show 0 < n by omega)
  have h4 : n * (a / n) = a / n * n := Int.mul_comm _ _
  omega
/-- The border behind: the first one later than the clock. -/
theorem advL_border (f : Nat) : ∀ (s : St) (ri ro all : RowsL) (acc : List S43), 1 ≤ s.n → s.clock + 1 - s.border ≤ (f : Int) * s.n → s.border ≤ s.clock + s.n →
    s.clock < (advL f s ri ro all acc).1.border ∧ (advL f s ri ro all acc).1.border ≤ s.clock + s.n ∧ s.border ≤ (advL f s ri ro all acc).1.border := by
  induction f with
  | zero =>
    intro s ri ro all acc hn hf hb
    have : s.clock < s.border := by simp at hf; omega
    exact ⟨this, hb, Int.le_refl _⟩
  | succ f ih =>
    intro s ri ro all acc hn hf hb
    by_cases h : s.clock < s.border
    · rw [advL_stop _ h]; exact ⟨h, hb, Int.le_refl _⟩
    · simp only [advL]
      rw [if_neg h]
      by_cases hz : nothing s ri ro all
      · rw [if_pos hz]
        have := div_bounds (a := s.clock - s.border) hn
        have h0 : 0 ≤ (s.clock - s.border) / s.n * s.n := Int.mul_nonneg (Int.ediv_nonneg (by omega) (by omega)) (by omega)
        exact ⟨by show s.clock < s.border + _; omega, by show s.border + _ ≤ _; omega, by show s.border ≤ s.border + _; omega⟩
      · rw [if_neg hz]
        have := ih { s with told := false, border := s.border + s.n } [] [] all (acc ++ endD s.k s.border ri ro all) hn (loop_fuel hf) (by show s.border + s.n ≤ s.clock + s.n; omega)
        exact ⟨this.1, this.2.1, by have := this.2.2; simp only at this; omega⟩
theorem nothing_clock {s : St} {ri ro all : RowsL} (c b : Int) : nothing { s with clock := c, border := b } ri ro all ↔ nothing s ri ro all := Iff.rfl
theorem advL_split (f : Nat) : ∀ (g h : Nat) (s : St) (a b : Int) (ri ro all : RowsL) (acc : List S43), 1 ≤ s.n → a ≤ b → a + 1 - s.border ≤ (f : Int) * s.n → b + 1 - s.border ≤ (g : Int) * s.n → b + 1 - s.border ≤ (h : Int) * s.n →
    advL h { (advL f { s with clock := a } ri ro all acc).1 with clock := b } (advL f { s with clock := a } ri ro all acc).2.1 (advL f { s with clock := a } ri ro all acc).2.2.1 all (advL f { s with clock := a } ri ro all acc).2.2.2 = advL g { s with clock := b } ri ro all acc := by
  induction f with
  | zero =>
    intro g h s a b ri ro all acc hn hab hf hg hh
    exact advL_fuel h g { s with clock := b } ri ro all acc hn hh hg
  | succ f ih =>
    intro g h s a b ri ro all acc hn hab hf hg hh
    by_cases hs : a < s.border
    · rw [advL_stop (f + 1) (s := { s with clock := a }) hs]
      exact advL_fuel h g { s with clock := b } ri ro all acc hn hh hg
    · have hsb : ¬ b < s.border := by omega
      obtain ⟨g, rfl⟩ : ∃ m, g = m + 1 := ⟨g - 1, by
        rcases g with _ | g
        · simp at hg; omega
        · rfl⟩
      simp only [advL]
      rw [if_neg hs, if_neg hsb]
      by_cases hz : nothing s ri ro all
      · have hza : nothing { s with clock := a } ri ro all := hz
        have hzb : nothing { s with clock := b } ri ro all := hz
        rw [if_pos hza, if_pos hzb]
        show advL h { s with clock := b, border := s.border + ((a - s.border) / s.n * s.n + s.n) } ri ro all acc = ({ s with clock := b, border := s.border + ((b - s.border) / s.n * s.n + s.n) }, ri, ro, acc)
        have da := div_bounds (a := a - s.border) hn
        have db := div_bounds (a := b - s.border) hn
        have h0 : 0 ≤ (a - s.border) / s.n * s.n := Int.mul_nonneg (Int.ediv_nonneg (by omega) (by omega)) (by omega)
        by_cases hB : b < s.border + ((a - s.border) / s.n * s.n + s.n)
        · rw [advL_stop h (s := { s with clock := b, border := s.border + ((a - s.border) / s.n * s.n + s.n) }) hB]
          have e1 : (b - s.border) / s.n = (a - s.border) / s.n := by
            have h1 : (b - s.border) / s.n ≤ (a - s.border) / s.n := by
              have : (b - s.border) / s.n < (a - s.border) / s.n + 1 := Int.ediv_lt_of_lt_mul (by omega) (by rw [Int.add_mul, Int.one_mul]; omega)
              omega
            have h2 := Int.ediv_le_ediv (show 0 < s.n by omega) (show a - s.border ≤ b - s.border by omega)
            omega
          rw [e1]
        · obtain ⟨h, rfl⟩ : ∃ m, h = m + 1 := ⟨h - 1, by
            rcases h with _ | h
            · simp at hh; omega
            · rfl⟩
          simp only [advL]
          rw [if_neg hB]
          have hzc : nothing { s with clock := b, border := s.border + ((a - s.border) / s.n * s.n + s.n) } ri ro all := hz
          rw [if_pos hzc]
          have e1 : (b - (s.border + ((a - s.border) / s.n * s.n + s.n))) / s.n = (b - s.border) / s.n - (a - s.border) / s.n - 1 := by
            have : b - (s.border + ((a - s.border) / s.n * s.n + s.n)) = (b - s.border) + (-(a - s.border) / s.n.natAbs * 0 + (-((a - s.border) / s.n) - 1) * s.n) := by
              rw [Int.sub_mul, Int.neg_mul]; omega
            rw [this, Int.mul_zero, Int.zero_add, Int.add_mul_ediv_right _ _ (show s.n ≠ 0 by omega)]
            omega
          have e2 : s.border + ((a - s.border) / s.n * s.n + s.n) + ((b - (s.border + ((a - s.border) / s.n * s.n + s.n))) / s.n * s.n + s.n) = s.border + ((b - s.border) / s.n * s.n + s.n) := by
            rw [e1, Int.sub_mul, Int.sub_mul]; omega
          show ({ s with clock := b, border := s.border + ((a - s.border) / s.n * s.n + s.n) + ((b - (s.border + ((a - s.border) / s.n * s.n + s.n))) / s.n * s.n + s.n) }, ri, ro, acc) = _
          rw [e2]
      · have hza : ¬ nothing { s with clock := a } ri ro all := hz
        have hzb : ¬ nothing { s with clock := b } ri ro all := hz
        rw [if_neg hza, if_neg hzb]
        refine ih g h { s with told := false, border := s.border + s.n } a b [] [] all (acc ++ endD s.k s.border ri ro all) hn hab (loop_fuel hf) (loop_fuel hg) ?_
        show b + 1 - (s.border + s.n) ≤ (h : Int) * s.n
        omega
theorem mn_late {a : Int} (h : a ≤ 1125899906842624) : mn a late = a := by unfold mn late; rw [if_neg (by omega)]
/-- In two steps, or in one. -/
theorem adv_split (s : St) (ri ro : RowsL) (a b : Int) (all : RowsL) (hn : s.t = true → 1 ≤ s.n) (hab : a ≤ b) (hb : b ≤ 1125899906842624) (hB : s.t = true → b + 1 - s.border ≤ 4002 * s.n) :
    (adv (adv s ri ro a all).1 (adv s ri ro a all).2.1 (adv s ri ro a all).2.2.1 b all).1 = (adv s ri ro b all).1 ∧ (adv (adv s ri ro a all).1 (adv s ri ro a all).2.1 (adv s ri ro a all).2.2.1 b all).2.1 = (adv s ri ro b all).2.1 ∧
    (adv (adv s ri ro a all).1 (adv s ri ro a all).2.1 (adv s ri ro a all).2.2.1 b all).2.2.1 = (adv s ri ro b all).2.2.1 ∧ (adv s ri ro a all).2.2.2 ++ (adv (adv s ri ro a all).1 (adv s ri ro a all).2.1 (adv s ri ro a all).2.2.1 b all).2.2.2 = (adv s ri ro b all).2.2.2 := by
  have ea := mn_late (show a ≤ 1125899906842624 by omega)
  have eb := mn_late hb
  by_cases ha : a < s.clock
  · have h1 : adv s ri ro a all = (s, ri, ro, []) := by unfold adv; rw [if_pos ha]
    rw [h1]
    exact ⟨rfl, rfl, rfl, rfl⟩
  · have hbc : ¬ b < s.clock := by omega
    cases ht : s.t
    · have h1 : ∀ c, ¬ c < s.clock → mn c late = c → adv s ri ro c all = ({ s with clock := c }, ri, ro, []) := fun c hc e => by unfold adv; rw [if_neg hc, if_neg (by rw [ht]; decide), e]
      rw [h1 a ha ea, h1 b hbc eb]
      have h2 : adv { s with clock := a } ri ro b all = ({ s with clock := b }, ri, ro, []) := by unfold adv; simp only; rw [if_neg (by omega), if_neg (by rw [ht]; decide), eb]
      simp only
      rw [h2]
      exact ⟨rfl, rfl, rfl, rfl⟩
    · have h1 : ∀ c, ¬ c < s.clock → mn c late = c → adv s ri ro c all = advL FU { s with clock := c } ri ro all [] := fun c hc e => by unfold adv; rw [if_neg hc, if_pos ht, e]
      rw [h1 a ha ea, h1 b hbc eb]
      have hn := hn ht
      have hB := hB ht
      have hf : (b + 1 - s.border) ≤ ((FU : Nat) : Int) * s.n := hB
      have sp := advL_split FU FU FU s a b ri ro all [] hn hab (by omega) hf hf
      have hk := advL_keeps FU { s with clock := a } ri ro all []
      obtain ⟨R, hR⟩ : ∃ R, advL FU { s with clock := a } ri ro all [] = R := ⟨_, rfl⟩
      rw [hR] at sp hk ⊢
      have h2 : adv R.1 R.2.1 R.2.2.1 b all = advL FU { R.1 with clock := b } R.2.1 R.2.2.1 all [] := by
        unfold adv
        rw [if_neg (by rw [hk.2.2.2.2]; simp only; omega), if_pos (by rw [hk.2.2.1]; exact ht), eb]
      rw [h2]
      rw [advL_acc] at sp
      rw [← sp]
      exact ⟨rfl, rfl, rfl, rfl⟩
end Go.Proofs.Yteklabhmmfklbaa
