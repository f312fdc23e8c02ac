import Derived.Test.YteklabhmmfklbaaFeedL
import Derived.Test.YteklabhmmfklbaaSep2
import Derived.Test.YteklabhmmfklbaaSure
import Derived.Test.YteklabhmmfklbaaOpenR
import Derived.Test.YteklabhmmfklbaaNext
import Derived.BigQuiet
import Derived.Deep.RegionHeld3
import Derived.Deep.CutBlock
namespace Go.Proofs.Yteklabhmmfklbaa
open Go.RowKit Print Go.Proofs.YteklabhmmfklbaaW.PrintWords Go.Proofs.YteklabhmmfklbaaW.PrintLast Go.Proofs.YteklabhmmfklbaaW.PrintMore
set_option linter.unusedVariables false
/-! ### Time that goes on in two steps -/
theorem advL_stop (f : Nat) {s : St} (h : s.clock < s.border) (ri ro all : RowsL) (acc : List S43) : advL f s ri ro all acc = (s, ri, ro, acc) := by
  cases f with
  | zero => rfl
  | succ f => simp only [advL]; rw [if_pos h]
theorem advL_fuel (f : Nat) : ∀ (g : Nat) (s : St) (ri ro all : RowsL) (acc : List S43), 1 ≤ s.n → s.clock + 1 - s.border ≤ (f : Int) * s.n → s.clock + 1 - s.border ≤ (g : Int) * s.n → advL f s ri ro all acc = advL g s ri ro all acc := by
  induction f with
  | zero =>
    intro g s ri ro all acc hn hf hg
    have : s.clock < s.border := by simp at hf; omega
    rw [advL_stop _ this, advL_stop _ this]
  | succ f ih =>
    intro g s ri ro all acc hn hf hg
    by_cases h : s.clock < s.border
    · rw [advL_stop _ h, advL_stop _ h]
    · cases g with
      | zero => simp at hg; omega
      | succ g =>
        simp only [advL]
        rw [if_neg h, if_neg h]
        by_cases hz : nothing s ri ro all
        · rw [if_pos hz, if_pos hz]
        · rw [if_neg hz, if_neg hz]
          exact ih g { s with told := false, border := s.border + s.n } [] [] all _ hn (loop_fuel hf) (loop_fuel hg)
theorem advL_acc (f : Nat) : ∀ (s : St) (ri ro all : RowsL) (acc : List S43), advL f s ri ro all acc = ((advL f s ri ro all []).1, (advL f s ri ro all []).2.1, (advL f s ri ro all []).2.2.1, acc ++ (advL f s ri ro all []).2.2.2) := by
  induction f with
  | zero => intro s ri ro all acc; simp [advL]
  | succ f ih =>
    intro s ri ro all acc
    simp only [advL]
    by_cases h : s.clock < s.border
    · rw [if_pos h, if_pos h]; simp
    · rw [if_neg h, if_neg h]
      by_cases hz : nothing s ri ro all
      · rw [if_pos hz, if_pos hz]; simp
      · rw [if_neg hz, if_neg hz, ih _ _ _ _ (acc ++ _), ih _ _ _ _ ([] ++ _)]
        simp
theorem div_bounds {a n : Int} (hn : 1 ≤ n) : a / n * n ≤ a ∧ a < a / n * n + n := by
  have h1 := Int.mul_ediv_add_emod a n
  have h2 := Int.emod_nonneg a (show n ≠ 0 by omega)
  have h3 := Int.emod_lt_of_pos a (show 0 < n by omega)
  have h4 : n * (a / n) = a / n * n := Int.mul_comm _ _
  omega
/-- The border behind: the first one later than the clock. -/
theorem advL_border (f : Nat) : ∀ (s : St) (ri ro all : RowsL) (acc : List S43), 1 ≤ s.n → s.clock + 1 - s.border ≤ (f : Int) * s.n → s.border ≤ s.clock + s.n →
    s.clock < (advL f s ri ro all acc).1.border ∧ (advL f s ri ro all acc).1.border ≤ s.clock + s.n ∧ s.border ≤ (advL f s ri ro all acc).1.border := by
  induction f with
  | zero =>
    intro s ri ro all acc hn hf hb
    have : s.clock < s.border := by simp at hf; omega
    exact ⟨this, hb, Int.le_refl _⟩
  | succ f ih =>
    intro s ri ro all acc hn hf hb
    by_cases h : s.clock < s.border
    · rw [advL_stop _ h]; exact ⟨h, hb, Int.le_refl _⟩
    · simp only [advL]
      rw [if_neg h]
      by_cases hz : nothing s ri ro all
      · rw [if_pos hz]
        have := div_bounds (a := s.clock - s.border) hn
        have h0 : 0 ≤ (s.clock - s.border) / s.n * s.n := Int.mul_nonneg (Int.ediv_nonneg (by omega) (by omega)) (by omega)
        exact ⟨by show s.clock < s.border + _; omega, by show s.border + _ ≤ _; omega, by show s.border ≤ s.border + _; omega⟩
      · rw [if_neg hz]
        have := ih { s with told := false, border := s.border + s.n } [] [] all (acc ++ endD s.k s.border ri ro all) hn (loop_fuel hf) (by show s.border + s.n ≤ s.clock + s.n; omega)
        exact ⟨this.1, this.2.1, by have := this.2.2; simp only at this; omega⟩
theorem nothing_clock {s : St} {ri ro all : RowsL} (c b : Int) : nothing { s with clock := c, border := b } ri ro all ↔ nothing s ri ro all := Iff.rfl
theorem advL_split (f : Nat) : ∀ (g h : Nat) (s : St) (a b : Int) (ri ro all : RowsL) (acc : List S43), 1 ≤ s.n → a ≤ b → a + 1 - s.border ≤ (f : Int) * s.n → b + 1 - s.border ≤ (g : Int) * s.n → b + 1 - s.border ≤ (h : Int) * s.n →
    advL h { (advL f { s with clock := a } ri ro all acc).1 with clock := b } (advL f { s with clock := a } ri ro all acc).2.1 (advL f { s with clock := a } ri ro all acc).2.2.1 all (advL f { s with clock := a } ri ro all acc).2.2.2 = advL g { s with clock := b } ri ro all acc := by
  induction f with
  | zero =>
    intro g h s a b ri ro all acc hn hab hf hg hh
    exact advL_fuel h g { s with clock := b } ri ro all acc hn hh hg
  | succ f ih =>
    intro g h s a b ri ro all acc hn hab hf hg hh
    by_cases hs : a < s.border
    · rw [advL_stop (f + 1) (s := { s with clock := a }) hs]
      exact advL_fuel h g { s with clock := b } ri ro all acc hn hh hg
    · have hsb : ¬ b < s.border := by omega
      obtain ⟨g, rfl⟩ : ∃ m, g = m + 1 := ⟨g - 1, by
        rcases g with _ | g
        · simp at hg; omega
        · rfl⟩
      simp only [advL]
      rw [if_neg hs, if_neg hsb]
      by_cases hz : nothing s ri ro all
      · have hza : nothing { s with clock := a } ri ro all := hz
        have hzb : nothing { s with clock := b } ri ro all := hz
        rw [if_pos hza, if_pos hzb]
        show advL h { s with clock := b, border := s.border + ((a - s.border) / s.n * s.n + s.n) } ri ro all acc = ({ s with clock := b, border := s.border + ((b - s.border) / s.n * s.n + s.n) }, ri, ro, acc)
        have da := div_bounds (a := a - s.border) hn
        have db := div_bounds (a := b - s.border) hn
        have h0 : 0 ≤ (a - s.border) / s.n * s.n := Int.mul_nonneg (Int.ediv_nonneg (by omega) (by omega)) (by omega)
        by_cases hB : b < s.border + ((a - s.border) / s.n * s.n + s.n)
        · rw [advL_stop h (s := { s with clock := b, border := s.border + ((a - s.border) / s.n * s.n + s.n) }) hB]
          have e1 : (b - s.border) / s.n = (a - s.border) / s.n := by
            have h1 : (b - s.border) / s.n ≤ (a - s.border) / s.n := by
              have : (b - s.border) / s.n < (a - s.border) / s.n + 1 := Int.ediv_lt_of_lt_mul (by omega) (by rw [Int.add_mul, Int.one_mul]; omega)
              omega
            have h2 := Int.ediv_le_ediv (show 0 < s.n by omega) (show a - s.border ≤ b - s.border by omega)
            omega
          rw [e1]
        · obtain ⟨h, rfl⟩ : ∃ m, h = m + 1 := ⟨h - 1, by
            rcases h with _ | h
            · simp at hh; omega
            · rfl⟩
          simp only [advL]
          rw [if_neg hB]
          have hzc : nothing { s with clock := b, border := s.border + ((a - s.border) / s.n * s.n + s.n) } ri ro all := hz
          rw [if_pos hzc]
          have e1 : (b - (s.border + ((a - s.border) / s.n * s.n + s.n))) / s.n = (b - s.border) / s.n - (a - s.border) / s.n - 1 := by
            have : b - (s.border + ((a - s.border) / s.n * s.n + s.n)) = (b - s.border) + (-(a - s.border) / s.n.natAbs * 0 + (-((a - s.border) / s.n) - 1) * s.n) := by
              rw [Int.sub_mul, Int.neg_mul]; omega
            rw [this, Int.mul_zero, Int.zero_add, Int.add_mul_ediv_right _ _ (show s.n ≠ 0 by omega)]
            omega
          have e2 : s.border + ((a - s.border) / s.n * s.n + s.n) + ((b - (s.border + ((a - s.border) / s.n * s.n + s.n))) / s.n * s.n + s.n) = s.border + ((b - s.border) / s.n * s.n + s.n) := by
            rw [e1, Int.sub_mul, Int.sub_mul]; omega
          show ({ s with clock := b, border := s.border + ((a - s.border) / s.n * s.n + s.n) + ((b - (s.border + ((a - s.border) / s.n * s.n + s.n))) / s.n * s.n + s.n) }, ri, ro, acc) = _
          rw [e2]
      · have hza : ¬ nothing { s with clock := a } ri ro all := hz
        have hzb : ¬ nothing { s with clock := b } ri ro all := hz
        rw [if_neg hza, if_neg hzb]
        refine ih g h { s with told := false, border := s.border + s.n } a b [] [] all (acc ++ endD s.k s.border ri ro all) hn hab (loop_fuel hf) (loop_fuel hg) ?_
        show b + 1 - (s.border + s.n) ≤ (h : Int) * s.n
        omega
theorem mn_late {a : Int} (h : a ≤ 1125899906842624) : mn a late = a := by unfold mn late; rw [if_neg (by omega)]
/-- In two steps, or in one. -/
theorem adv_split (s : St) (ri ro : RowsL) (a b : Int) (all : RowsL) (hn : s.t = true → 1 ≤ s.n) (hab : a ≤ b) (hb : b ≤ 1125899906842624) (hB : s.t = true → b + 1 - s.border ≤ 4002 * s.n) :
    (adv (adv s ri ro a all).1 (adv s ri ro a all).2.1 (adv s ri ro a all).2.2.1 b all).1 = (adv s ri ro b all).1 ∧ (adv (adv s ri ro a all).1 (adv s ri ro a all).2.1 (adv s ri ro a all).2.2.1 b all).2.1 = (adv s ri ro b all).2.1 ∧
    (adv (adv s ri ro a all).1 (adv s ri ro a all).2.1 (adv s ri ro a all).2.2.1 b all).2.2.1 = (adv s ri ro b all).2.2.1 ∧ (adv s ri ro a all).2.2.2 ++ (adv (adv s ri ro a all).1 (adv s ri ro a all).2.1 (adv s ri ro a all).2.2.1 b all).2.2.2 = (adv s ri ro b all).2.2.2 := by
  have ea := mn_late (show a ≤ 1125899906842624 by omega)
  have eb := mn_late hb
  by_cases ha : a < s.clock
  · have h1 : adv s ri ro a all = (s, ri, ro, []) := by unfold adv; rw [if_pos ha]
    rw [h1]
    exact ⟨rfl, rfl, rfl, rfl⟩
  · have hbc : ¬ b < s.clock := by omega
    cases ht : s.t
    · have h1 : ∀ c, ¬ c < s.clock → mn c late = c → adv s ri ro c all = ({ s with clock := c }, ri, ro, []) := fun c hc e => by unfold adv; rw [if_neg hc, if_neg (by rw [ht]; decide), e]
      rw [h1 a ha ea, h1 b hbc eb]
      have h2 : adv { s with clock := a } ri ro b all = ({ s with clock := b }, ri, ro, []) := by unfold adv; simp only; rw [if_neg (by omega), if_neg (by rw [ht]; decide), eb]
      simp only
      rw [h2]
      exact ⟨rfl, rfl, rfl, rfl⟩
    · have h1 : ∀ c, ¬ c < s.clock → mn c late = c → adv s ri ro c all = advL FU { s with clock := c } ri ro all [] := fun c hc e => by unfold adv; rw [if_neg hc, if_pos ht, e]
      rw [h1 a ha ea, h1 b hbc eb]
      have hn := hn ht
      have hB := hB ht
      have hf : (b + 1 - s.border) ≤ ((FU : Nat) : Int) * s.n := hB
      have sp := advL_split FU FU FU s a b ri ro all [] hn hab (by omega) hf hf
      have hk := advL_keeps FU { s with clock := a } ri ro all []
      obtain ⟨R, hR⟩ : ∃ R, advL FU { s with clock := a } ri ro all [] = R := ⟨_, rfl⟩
      rw [hR] at sp hk ⊢
      have h2 : adv R.1 R.2.1 R.2.2.1 b all = advL FU { R.1 with clock := b } R.2.1 R.2.2.1 all [] := by
        unfold adv
        rw [if_neg (by rw [hk.2.2.2.2]; simp only; omega), if_pos (by rw [hk.2.2.1]; exact ht), eb]
      rw [h2]
      rw [advL_acc] at sp
      rw [← sp]
      exact ⟨rfl, rfl, rfl, rfl⟩
end Go.Proofs.Yteklabhmmfklbaa
namespace Go.Proofs.Yteklabhmmfklbaa
open Go.RowKit Print Go.Proofs.YteklabhmmfklbaaW.PrintWords Go.Proofs.YteklabhmmfklbaaW.PrintLast Go.Proofs.YteklabhmmfklbaaW.PrintMore
set_option linter.unusedVariables false
/-- What a rate is always like behind New, Feed and Advance. -/
structure Inv (s : St) : Prop where
  g : Good s
  ev : 0 ≤ s.events ∧ s.events ≤ late
  tb : s.t = true → s.clock < s.border
theorem Inv.of {s s' : St} (h : Inv s) (hk : s'.k = s.k) (hn : s'.n = s.n) (ht : s'.t = s.t) (hc : s'.clock = s.clock) (hb : s'.border = s.border) (he : 0 ≤ s'.events ∧ s'.events ≤ late) : Inv s' := by
  obtain ⟨⟨k0, t0, c0, cl, n1, n2, b0, b1⟩, ev, tb⟩ := h
  obtain ⟨k, n, t, clock, border, events, told⟩ := s
  obtain ⟨k', n', t', clock', border', events', told'⟩ := s'
  simp only at *
  subst hk hn ht hc hb
  exact ⟨⟨k0, t0, c0, cl, n1, n2, b0, b1⟩, he, tb⟩
theorem adv_inv {s : St} (h : Inv s) (ri ro : RowsL) {now : Int} (all : RowsL) (hc : s.clock ≤ now) (hl : now ≤ 1125899906842624) (hm : s.t = true → now + 1 - s.border ≤ 4002 * s.n) :
    Inv (adv s ri ro now all).1 ∧ (adv s ri ro now all).1.clock = now := by
  have e := mn_late hl
  have hL : now ≤ late := by unfold late; omega
  have hc0 := h.g.c0
  have hkp := adv_keeps s ri ro now all
  cases ht : s.t
  · have h1 : adv s ri ro now all = ({ s with clock := now }, ri, ro, []) := by unfold adv; rw [if_neg (by omega), if_neg (by rw [ht]; decide), e]
    rw [h1]
    exact ⟨⟨⟨h.g.k0, h.g.t0, by show 0 ≤ now; omega, hL, h.g.n1, h.g.n2, fun hh => absurd hh (by show ¬ s.t = true; rw [ht]; decide), fun hh => absurd hh (by show ¬ s.t = true; rw [ht]; decide)⟩, h.ev, fun hh => absurd hh (by show ¬ s.t = true; rw [ht]; decide)⟩, rfl⟩
  · have h1 : adv s ri ro now all = advL FU { s with clock := now } ri ro all [] := by unfold adv; rw [if_neg (by omega), if_pos ht, e]
    have hn := h.g.n1 ht
    have b1 := h.g.b1 ht
    have b0 := h.g.b0 ht
    have hb := advL_border FU { s with clock := now } ri ro all [] hn (hm ht) (by show s.border ≤ now + s.n; omega)
    have hk := advL_keeps FU { s with clock := now } ri ro all []
    rw [← h1] at hb hk
    obtain ⟨R, hR⟩ : ∃ R, adv s ri ro now all = R := ⟨_, rfl⟩
    rw [hR] at hb hk ⊢
    obtain ⟨q1, q2, q3, q4, q5⟩ := hk
    simp only at q1 q2 q3 q4 q5 hb
    refine ⟨⟨⟨by rw [q1]; exact h.g.k0, fun _ => by rw [q1]; exact h.g.t0 ht, by rw [q5]; omega, by rw [q5]; exact hL, fun _ => by rw [q2]; exact hn, by rw [q2]; exact h.g.n2, fun _ => by omega, fun _ => by rw [q5, q2]; exact hb.2.1⟩, by rw [q4]; exact h.ev, fun _ => by rw [q5]; exact hb.1⟩, q5⟩
theorem ev_bound {a b : Int} (h : 0 ≤ a ∧ a ≤ late) : 0 ≤ mn (a + mn (mx b 0) late) late ∧ mn (a + mn (mx b 0) late) late ≤ late := by
  unfold mn mx late at *
  repeat' split
  all_goals omega
theorem feedG_state (R : St × RowsL × RowsL × List S43) (nw : Int) (xs ys : RowsL) : (feedG R nw xs ys).1.k = R.1.k ∧ (feedG R nw xs ys).1.n = R.1.n ∧ (feedG R nw xs ys).1.t = R.1.t ∧ (feedG R nw xs ys).1.clock = R.1.clock ∧ (feedG R nw xs ys).1.border = R.1.border ∧ (feedG R nw xs ys).1.events = R.1.events := by
  unfold feedG
  repeat' split
  all_goals exact ⟨rfl, rfl, rfl, rfl, rfl, rfl⟩
theorem feedE_inv {R : St × RowsL × RowsL × List S43} (h : Inv R.1) (nw ev : Int) (all : RowsL) : Inv (feedE R nw ev all).1 ∧ (feedE R nw ev all).1.clock = R.1.clock ∧ (feedE R nw ev all).1.k = R.1.k ∧ (feedE R nw ev all).1.n = R.1.n ∧ (feedE R nw ev all).1.t = R.1.t := by
  unfold feedE
  split
  · exact ⟨h, rfl, rfl, rfl, rfl⟩
  · split
    · exact ⟨h.of rfl rfl rfl rfl rfl ⟨Int.le_refl _, by show (0 : Int) ≤ late; unfold late; omega⟩, rfl, rfl, rfl, rfl⟩
    · exact ⟨h.of rfl rfl rfl rfl rfl (ev_bound h.ev), rfl, rfl, rfl, rfl⟩
theorem nw_eq {s : St} {now : Int} (hc : s.clock ≤ now) (hl : now ≤ 1125899906842624) : mn (mx now s.clock) late = now := by
  have : mx now s.clock = now := by unfold mx; rw [if_neg (by omega)]
  rw [this]; exact mn_late hl
theorem feed_inv {s : St} (h : Inv s) (ri ro : RowsL) {now : Int} (ev : Int) (xs ys all : RowsL) (hc : s.clock ≤ now) (hl : now ≤ 1125899906842624) (hm : s.t = true → now + 1 - s.border ≤ 4002 * s.n) :
    Inv (feed s ri ro now ev xs ys all).1 ∧ (feed s ri ro now ev xs ys all).1.clock = now ∧ (feed s ri ro now ev xs ys all).1.k = s.k ∧ (feed s ri ro now ev xs ys all).1.n = s.n ∧ (feed s ri ro now ev xs ys all).1.t = s.t := by
  unfold feed
  rw [nw_eq hc hl]
  obtain ⟨hA, hclk⟩ := adv_inv h ri ro all hc hl hm
  have hk := adv_keeps s ri ro now all
  obtain ⟨R, hR⟩ : ∃ R, adv s ri ro now all = R := ⟨_, rfl⟩
  rw [hR] at hA hclk hk ⊢
  unfold feedR
  split
  · exact ⟨hA, hclk, hk.1, hk.2.1, hk.2.2.1⟩
  · obtain ⟨q1, q2, q3, q4, q5, q6⟩ := feedG_state R now xs ys
    have := feedE_inv (R := feedG R now xs ys) (hA.of q1 q2 q3 q4 q5 (by rw [q6]; exact hA.ev)) now ev all
    exact ⟨this.1, by rw [this.2.1, q4, hclk], by rw [this.2.2.1, q1, hk.1], by rw [this.2.2.2.1, q2, hk.2.1], by rw [this.2.2.2.2, q3, hk.2.2.1]⟩
theorem gatD_len (k : Int) (a b : RowsL) : (gatD k a b).length ≤ a.length + b.length := by
  unfold gatD
  split
  · rw [List.length_append]; exact Nat.le_refl _
  · split
    · split
      · omega
      · unfold lastOf; simp; omega
    · omega
theorem feed_rows {s : St} (ri ro : RowsL) (now ev : Int) (xs ys all : RowsL) (h1 : Sm ri) (h2 : Sm ro) (hx : Sm xs) (hy : Sm ys) (hi : ri.length + xs.length ≤ 2097152) (ho : ro.length + ys.length ≤ 2097152) :
    Sm (feed s ri ro now ev xs ys all).2.1 ∧ Sm (feed s ri ro now ev xs ys all).2.2.1 ∧ (feed s ri ro now ev xs ys all).2.1.length ≤ ri.length + xs.length ∧ (feed s ri ro now ev xs ys all).2.2.1.length ≤ ro.length + ys.length := by
  unfold feed
  have q := adv_Sm (s := s) (mn (mx now s.clock) late) all h1 h2
  have q2 := adv_rows s ri ro (mn (mx now s.clock) late) all
  obtain ⟨R, hR⟩ : ∃ R, adv s ri ro (mn (mx now s.clock) late) all = R := ⟨_, rfl⟩
  rw [hR] at q q2 ⊢
  unfold feedR
  split
  · exact ⟨q.1, q.2, by simp only; omega, by simp only; omega⟩
  · have hg := feedG_Sm (nw := mn (mx now s.clock) late) q.1 q.2 hx hy (by omega) (by omega)
    have hl : (feedG R (mn (mx now s.clock) late) xs ys).2.1.length ≤ R.2.1.length + xs.length ∧ (feedG R (mn (mx now s.clock) late) xs ys).2.2.1.length ≤ R.2.2.1.length + ys.length := by
      unfold feedG
      split
      · split
        · exact ⟨by simp only; omega, by simp only; omega⟩
        · exact ⟨by omega, by omega⟩
      · exact ⟨gatD_len _ _ _, gatD_len _ _ _⟩
    obtain ⟨G, hG⟩ : ∃ G, feedG R (mn (mx now s.clock) late) xs ys = G := ⟨_, rfl⟩
    rw [hG] at hg hl ⊢
    unfold feedE
    split
    · exact ⟨hg.1, hg.2, by omega, by omega⟩
    · split
      · exact ⟨Sm.nil, Sm.nil, Nat.zero_le _, Nat.zero_le _⟩
      · exact ⟨hg.1, hg.2, by simp only; omega, by simp only; omega⟩
end Go.Proofs.Yteklabhmmfklbaa
namespace Go.Proofs.Yteklabhmmfklbaa
open Go.RowKit Print Go.Proofs.YteklabhmmfklbaaW.PrintWords Go.Proofs.YteklabhmmfklbaaW.PrintLast Go.Proofs.YteklabhmmfklbaaW.PrintMore
set_option linter.unusedVariables false
variable {w W : World} {L : List Asr}
abbrev O33 := Bool × Int × Int × S31 × List (List S68)
def z33 : O33 := (false, 0, 0, z31, [])
def rd33 (l : List O33) (i : Int) : O33 := l.getD i.toNat z33
theorem at33 {w wr : World} {A : Option Addr} {l : List O33} (h : Kd.C k33 w A l.length l) (hb : Below w.heap.size w wr) (i : Int) (h0 : 0 ≤ i) (h1 : i < l.length) : ∃ ad A0 c0 A1 c1 A2 c2, A = some ad ∧
    wr.cell? ⟨(ad.add (i.toNat * 6)).block, (ad.add (i.toNat * 6)).off + 1, none⟩ = some (.int .i64 (rd33 l i).2.1) ∧ wr.cell? ⟨(ad.add (i.toNat * 6)).block, (ad.add (i.toNat * 6)).off + 2, none⟩ = some (.int .i64 (rd33 l i).2.2.1) ∧
    wr.cell? ⟨(ad.add (i.toNat * 6)).block, (ad.add (i.toNat * 6)).off + 3, none⟩ = some (.slice A0 (rd33 l i).2.2.2.1.f0.length c0) ∧ wr.cell? ⟨(ad.add (i.toNat * 6)).block, (ad.add (i.toNat * 6)).off + 4, none⟩ = some (.slice A1 (rd33 l i).2.2.2.1.f1.length c1) ∧
    wr.cell? ⟨(ad.add (i.toNat * 6)).block, (ad.add (i.toNat * 6)).off + 5, none⟩ = some (.slice A2 (rd33 l i).2.2.2.2.length c2) ∧
    Kd.F kR wr (fun k => k < w.heap.size) A0 (rd33 l i).2.2.2.1.f0.length (rd33 l i).2.2.2.1.f0 ∧ (rd33 l i).2.2.2.1.f0.length ≤ c0 ∧ Kd.F kR wr (fun k => k < w.heap.size) A1 (rd33 l i).2.2.2.1.f1.length (rd33 l i).2.2.2.1.f1 ∧ (rd33 l i).2.2.2.1.f1.length ≤ c1 ∧
    Kd.F kR wr (fun k => k < w.heap.size) A2 (rd33 l i).2.2.2.2.length (rd33 l i).2.2.2.2 ∧ (rd33 l i).2.2.2.2.length ≤ c2 := by
  obtain ⟨ad, c, e, _, hK, hc0⟩ := Kd.C_get h z33 i h0 h1
  have hc : ∀ j u, c[j]? = some u → w.cell? (ad.add (i.toNat * 6 + j)) = some u := hc0
  have hcr : ∀ j u, c[j]? = some u → wr.cell? (ad.add (i.toNat * 6 + j)) = some u := fun j u hu => (hb.cell (World.block_lt_of_cell? w _ (hc j u hu))).trans (hc j u hu)
  obtain ⟨A0, c0, A1, c1, A2, c2, rfl, l0, g0, l1, g1, l2, g2⟩ := k33_open hK
  refine ⟨ad, A0, c0, A1, c1, A2, c2, e, ?_, ?_, ?_, ?_, ?_, Kd.F_below (Kd.C_F heap_kR g0) hb, l0, Kd.F_below (Kd.C_F heap_kR g1) hb, l1, Kd.F_below (Kd.C_F heap_kR g2) hb, l2⟩
  · rw [← add_field _ _ 1 (by omega)]; exact hcr 1 _ rfl
  · rw [← add_field _ _ 2 (by omega)]; exact hcr 2 _ rfl
  · rw [← add_field _ _ 3 (by omega)]; exact hcr 3 _ rfl
  · rw [← add_field _ _ 4 (by omega)]; exact hcr 4 _ rfl
  · rw [← add_field _ _ 5 (by omega)]; exact hcr 5 _ rfl
/-- Are there too many borders? -/
def manyP (n : Int) (t : Bool) (clock now : Int) : Prop := t = true ∧ 0 < n ∧ clock < now ∧ 2000 < (now - clock) / n
instance (n : Int) (t : Bool) (clock now : Int) : Decidable (manyP n t clock now) := by unfold manyP; infer_instance
theorem many_f (k n : Int) (t : Bool) (clock now : Int) (h0 : 0 ≤ clock) (h1 : now ≤ 1125899906842624) : marqueelaw20_many.f k n t clock now = some (decide (manyP n t clock now)) := by
  unfold marqueelaw20_many.f
  by_cases ht : t = true
  · rw [if_pos ht]
    by_cases hn : n > 0
    · rw [if_pos hn]
      by_cases hl : now > clock
      · have hd : 0 ≤ now - clock := by omega
        have hq : 0 ≤ (now - clock) / n := Int.ediv_nonneg hd (by omega)
        have hq2 : (now - clock) / n ≤ now - clock := Int.ediv_le_self _ hd
        have e1 : wrap64 (now - clock) = now - clock := w64 ⟨by omega, by omega⟩
        rw [if_pos hl, if_neg (by omega), e1, Int.tdiv_eq_ediv_of_nonneg hd, w64 ⟨by omega, by omega⟩]
        by_cases hz : (now - clock) / n > 2000
        · rw [decide_eq_true hz, decide_eq_true (show manyP n t clock now from ⟨ht, by omega, by omega, by omega⟩)]
        · rw [decide_eq_false hz, decide_eq_false (show ¬ manyP n t clock now from fun h => by have := h.2.2.2; omega)]
      · rw [if_neg hl, decide_eq_false (show ¬ manyP n t clock now from fun h => by have := h.2.2.1; omega)]
    · rw [if_neg hn, decide_eq_false (show ¬ manyP n t clock now from fun h => by have := h.2.1; omega)]
  · rw [if_neg ht, decide_eq_false (show ¬ manyP n t clock now from fun h => ht h.1)]
theorem many_any (k n : Int) (t : Bool) (clock now : Int) (w : World) (h0 : 0 ≤ clock) (h1 : now ≤ 1125899906842624) : Calls Try.prog 9 #[.agg #[.int .i64 k, .int .i64 n, .bool t], .int .i64 clock, .int .i64 now] w fun e w' => e = .returned (.bool (decide (manyP n t clock now))) ∧ Below w.heap.size w w' :=
  marqueelaw20_many.calls k n t clock now _ w (many_f k n t clock now h0 h1)
/-- Few borders, then. -/
theorem few {s : St} {now : Int} (h : Inv s) (hm : ¬ manyP s.n s.t s.clock now) (hc : s.clock ≤ now) : s.t = true → now + 1 - s.border ≤ 4002 * s.n := fun ht => by
  have hn := h.g.n1 ht
  have hb := h.tb ht
  by_cases hl : s.clock < now
  · have h2 : ¬ 2000 < (now - s.clock) / s.n := fun hh => hm ⟨ht, by omega, hl, hh⟩
    have := div_bounds (a := now - s.clock) hn
    have h3 : (now - s.clock) / s.n * s.n ≤ 2000 * s.n := Int.mul_le_mul_of_nonneg_right (by omega) (by omega)
    omega
  · omega
theorem feed_law {g : Nat} {s : St} {ri ro : RowsL} (now ev : Int) {A A' A2 : Option Addr} {c c' c2 : Nat} {xs ys all : RowsL} {W1 : World} {j : Nat} {L' : List Asr} (h : Apart w (Rt g s ri ro :: L)) (hj : pick j L = Old W1 :: L') (hW : Below w.heap.size w W) (hf : Fits s ri ro now xs ys all)
    (hx : Kd.F kR W (fun k => k < W1.heap.size) A xs.length xs) (hxc : xs.length ≤ c) (hy : Kd.F kR W (fun k => k < W1.heap.size) A' ys.length ys) (hyc : ys.length ≤ c') (ha : Kd.F kR W (fun k => k < W1.heap.size) A2 all.length all) (hac : all.length ≤ c2) :
    Calls Try.prog 10 #[.pointer (some ⟨g, 0, none⟩), .int .i64 now, .int .i64 ev, .agg #[.slice A xs.length c, .slice A' ys.length c'], .slice A2 all.length c2] W (fun e w' => ∃ A3 c3, e = .returned (.slice A3 (feed s ri ro now ev xs ys all).2.2.2.length c3) ∧ Apart w' (Rt g (feed s ri ro now ev xs ys all).1 (feed s ri ro now ev xs ys all).2.1 (feed s ri ro now ev xs ys all).2.2.1 :: Dl (.slice A3 (feed s ri ro now ev xs ys all).2.2.2.length c3) (feed s ri ro now ev xs ys all).2.2.2 :: L)) := by
  obtain ⟨F, hR, _, hl⟩ := Sep.out (h.onto hW)
  have hp := hl.pick j
  rw [hj] at hp
  obtain ⟨FO, hO, hd, _⟩ := Sep.out hp
  exact feed_core now ev hR (hl.mono (fun k hk => .inr hk)) hf hx hxc hy hyc ha hac (fun k hk hF => hd k ((hO.1 k).2 hk) (.inr hF)) rfl
theorem adv_law {g : Nat} {s : St} {ri ro : RowsL} (now : Int) {A2 : Option Addr} {c2 : Nat} {all : RowsL} {W1 : World} {j : Nat} {L' : List Asr} (h : Apart w (Rt g s ri ro :: L)) (hj : pick j L = Old W1 :: L') (hW : Below w.heap.size w W) (hG : Good s) (hi : Sm ri) (ho : Sm ro)
    (ha : Kd.F kR W (fun k => k < W1.heap.size) A2 all.length all) (hac : all.length ≤ c2) (hs : Sm all) (hmany : s.t = true → mn now late + 1 - s.border ≤ 4002 * s.n) :
    Calls Try.prog 11 #[.pointer (some ⟨g, 0, none⟩), .int .i64 now, .slice A2 all.length c2] W (fun e w' => ∃ A3 c3, e = .returned (.slice A3 (adv s ri ro now all).2.2.2.length c3) ∧ Apart w' (Rt g (adv s ri ro now all).1 (adv s ri ro now all).2.1 (adv s ri ro now all).2.2.1 :: Dl (.slice A3 (adv s ri ro now all).2.2.2.length c3) (adv s ri ro now all).2.2.2 :: L)) := by
  obtain ⟨F, hR, _, hl⟩ := Sep.out (h.onto hW)
  have hp := hl.pick j
  rw [hj] at hp
  obtain ⟨FO, hO, hd, _⟩ := Sep.out hp
  exact adv_core now hR (hl.mono (fun k hk => .inr hk)) hG hi ho ha hac hs (fun k hk hF => hd k ((hO.1 k).2 hk) (.inr hF)) hmany rfl
end Go.Proofs.Yteklabhmmfklbaa
namespace Go.Proofs.Yteklabhmmfklbaa
open Go.RowKit Print Go.Proofs.YteklabhmmfklbaaW.PrintWords Go.Proofs.YteklabhmmfklbaaW.PrintLast Go.Proofs.YteklabhmmfklbaaW.PrintMore
set_option linter.unusedVariables false
theorem reads_M {w : World} {F : Nat → Prop} {A : Option Addr} {m c : Nat} {ys : List S43} (h : k43.R 43 w 0 F (.slice A m c) ys) : m = ys.length ∧ ReadsRow (k43.M w 0 F) k43.sz w A m ys := by
  obtain ⟨A2, c2, he, hl, hr⟩ := OwnRow.reads h.2
  injection he with e1 e2 e3
  subst e1 e2
  exact ⟨rfl, hr.imp_ (Below.refl _ _) (fun _ _ hp => k43.M_mono (fun k hk => hk.1) hp)⟩
section
variable {W : World} {L L1 L2 : List Asr} {ops : Array Oper} {o : Oper} {rest : List Oper} {a : Act} {Q : Exit → Act → World → Prop}
/-- Deliveries behind deliveries. -/
theorem app_sep (hgd : o.guard = none) (s x : Operand) (ho : o.op = .call { callee := .builtin .append, args := #[s, x], argTypes := #[35, 35] }) {A A' : Option Addr} {n m c c' : Nat} {xs ys : List S43} (hs : a.eval s = .slice A n c) (hx : a.eval x = .slice A' m c')
    {i j : Nat} (h : Apart W L) (hi : pick i L = Dl (.slice A n c) xs :: L1) (hj : pick j L1 = Dl (.slice A' m c') ys :: L2) (hl : xs.length + ys.length ≤ 100000)
    (hk : ∀ A3 c3 w1, Apart w1 (Dl (.slice A3 (xs ++ ys).length c3) (xs ++ ys) :: L2) → wpList Try.prog ops Q rest (a.put o.dst (.slice A3 (xs ++ ys).length c3)) w1) : wpList Try.prog ops Q (o :: rest) a W := by
  have h1 := h.pick i
  rw [hi] at h1
  obtain ⟨F1, ⟨r1, b1⟩, _, h2⟩ := Sep.out h1
  have h3 := h2.pick j
  rw [hj] at h3
  obtain ⟨F2, ⟨r2, b2⟩, d2, h4⟩ := Sep.out h3
  obtain ⟨hm, hr⟩ := reads_M r2
  refine Kd.R_append_rows k43 (w0 := W) 0 hgd s x 35 43 (.agg #[.int .i64 0, .slice none 0 0, .slice none 0 0]) 56 ho Try.underlying35 info43 rfl (by decide) (by omega) (.slice A n c) xs ys A' m c' (fun k => F1 k ∨ F2 k ∨ W.heap.size ≤ k) F2 hs hx (Kd.R_mono r1 (fun _ h => .inl h)) hr (fun _ _ h => h)
    (fun k hk => ⟨.inr (.inl hk), fun e => d2 k hk (.inr (r1.1 k e.symm))⟩) (fun k hk => .inr (.inr hk)) (Below.refl _ _) (Nat.zero_le _) (by omega) ?_
  intro v1 w1 hR hb hg hat
  obtain ⟨A3, c3, rfl⟩ := Kd.R_slice hR
  refine hk A3 c3 w1 ⟨fun k => (F1 k ∨ F2 k ∨ W.heap.size ≤ k) ∧ k < w1.heap.size, ⟨Kd.R_mono (Kd.R_bound hR) (fun k hk => ⟨hk.1, hk.2.2.1⟩), fun k hk => hk.2⟩, fun _ _ h => h, ?_⟩
  refine h4.frame (K3.of_grown hg (K3.refl W (fun k => F1 k)) (fun k hk => .inl (r1.1 k hk))) (fun k hk => .inl (.inr hk)) (fun k hu => ?_)
  rcases hu with hu | ⟨hu | hu | hu, _⟩
  · exact hu.elim
  · exact .inl (.inl (.inr hu))
  · exact .inl (.inr hu)
  · exact .inr hu
end
/-- Two deliveries that are alike. -/
theorem same2 {w W : World} {L L1 L2 : List Asr} {A A' : Option Addr} {n n' c c' : Nat} {ds : List S43} {i j : Nat} (h : Apart w L) (hi : pick i L = Dl (.slice A n c) ds :: L1) (hj : pick j L = Dl (.slice A' n' c') ds :: L2) (hW : Below w.heap.size w W) (hs : SmD ds) :
    Calls Try.prog 13 #[.slice A n c, .slice A' n' c'] W (fun e w' => e = .returned (.bool true) ∧ Apart w' L) := by
  have h2 := h.onto hW
  have h3 := h2.pick i
  have h4 := h2.pick j
  rw [hi] at h3
  rw [hj] at h4
  obtain ⟨F, ⟨hR, _⟩, _⟩ := h3
  obtain ⟨F', ⟨hR', _⟩, _⟩ := h4
  obtain ⟨rfl, hcc, hC0⟩ := Kd.R_reads' hR
  obtain ⟨rfl, hcc', hC0'⟩ := Kd.R_reads' hR'
  exact (same_any A c A' c' ds W hC0 hcc hC0' hcc' hs).mono fun e w' ⟨he, hb⟩ => ⟨he, h2.onto hb⟩
theorem endD_Sm {k t : Int} {ri ro all : RowsL} (h1 : Sm ri) (h2 : Sm ro) (h3 : Sm all) : ∀ x ∈ endD k t ri ro all, Sm x.f1.f0 ∧ Sm x.f1.f1 := by
  intro x hx
  unfold endD at hx
  split at hx
  · split at hx
    · cases hx
    · rw [List.mem_singleton] at hx; subst hx; exact ⟨h1, h2⟩
  · split at hx
    · split at hx
      · cases hx
      · rw [List.mem_singleton] at hx; subst hx; exact ⟨h3, Sm.nil⟩
    · cases hx
theorem advL_SmD (f : Nat) : ∀ (s : St) (ri ro all : RowsL) (acc : List S43), Sm ri → Sm ro → Sm all → (∀ x ∈ acc, Sm x.f1.f0 ∧ Sm x.f1.f1) → ∀ x ∈ (advL f s ri ro all acc).2.2.2, Sm x.f1.f0 ∧ Sm x.f1.f1 := by
  induction f with
  | zero => intro s ri ro all acc _ _ _ h; exact h
  | succ f ih =>
    intro s ri ro all acc h1 h2 h3 h
    simp only [advL]
    split
    · exact h
    · split
      · exact h
      · exact ih _ [] [] all _ Sm.nil Sm.nil h3 (fun x hx => (List.mem_append.1 hx).elim (h x) (endD_Sm h1 h2 h3 x))
theorem adv_SmD (s : St) {ri ro all : RowsL} (now : Int) (h1 : Sm ri) (h2 : Sm ro) (h3 : Sm all) : SmD (adv s ri ro now all).2.2.2 := by
  refine ⟨Nat.le_trans (adv_len s ri ro now all) (by decide), ?_⟩
  unfold adv
  split
  · intro x hx; cases hx
  · split
    · exact advL_SmD FU _ _ _ _ [] h1 h2 h3 (fun x hx => by cases hx)
    · intro x hx; cases hx
theorem adv_border {s : St} (h : Inv s) (ri ro : RowsL) {a : Int} (all : RowsL) (ha : a ≤ 1125899906842624) (hB : s.t = true → a + 1 - s.border ≤ 4002 * s.n) : Inv (adv s ri ro a all).1 ∧ s.border ≤ (adv s ri ro a all).1.border := by
  by_cases hc : a < s.clock
  · have h1 : adv s ri ro a all = (s, ri, ro, []) := by unfold adv; rw [if_pos hc]
    rw [h1]
    exact ⟨h, Int.le_refl _⟩
  · refine ⟨(adv_inv h ri ro all (by omega) ha hB).1, ?_⟩
    cases ht : s.t
    · have h1 : adv s ri ro a all = ({ s with clock := mn a late }, ri, ro, []) := by unfold adv; rw [if_neg hc, if_neg (by rw [ht]; decide)]
      rw [h1]
      exact Int.le_refl _
    · have h1 : adv s ri ro a all = advL FU { s with clock := a } ri ro all [] := by unfold adv; rw [if_neg hc, if_pos ht, mn_late ha]
      rw [h1]
      have b1 := h.g.b1 ht
      exact (advL_border FU { s with clock := a } ri ro all [] (h.g.n1 ht) (hB ht) (by show s.border ≤ a + s.n; omega)).2.2
theorem adv_go {s : St} (h : Inv s) (ri ro : RowsL) {a b : Int} (all : RowsL) (hab : a ≤ b) (hb : b ≤ 1125899906842624) (hB : s.t = true → b + 1 - s.border ≤ 4002 * s.n) :
    Good (adv s ri ro a all).1 ∧ ((adv s ri ro a all).1.t = true → mn b late + 1 - (adv s ri ro a all).1.border ≤ 4002 * (adv s ri ro a all).1.n) ∧ (s.t = true → mn a late + 1 - s.border ≤ 4002 * s.n) := by
  have hA : s.t = true → a + 1 - s.border ≤ 4002 * s.n := fun ht => by have := hB ht; omega
  obtain ⟨q1, q2⟩ := adv_border h ri ro all (show a ≤ 1125899906842624 by omega) hA
  obtain ⟨k1, k2, k3, k4⟩ := adv_keeps s ri ro a all
  refine ⟨q1.g, fun ht => ?_, fun ht => ?_⟩
  · rw [mn_late hb, k2]
    have := hB (k3.symm.trans ht)
    omega
  · rw [mn_late (by omega)]; exact hA ht
theorem F_move2 {W1 wr w' : World} {A : Option Addr} {n : Nat} {xs : RowsL} (h : Kd.F kR wr (fun k => k < W1.heap.size) A n xs) (h1 : Below W1.heap.size W1 wr) (h2 : Below W1.heap.size W1 w') : Kd.F kR w' (fun k => k < W1.heap.size) A n xs :=
  Kd.F_step h (fun k hk _ => (h2.block k hk).trans (h1.block k hk).symm)
/-- No great number of borders. -/
theorem few2 {s : St} {b : Int} (h : Inv s) (hm : ¬ manyP s.n s.t s.clock b) : s.t = true → b + 1 - s.border ≤ 4002 * s.n := fun ht => by
  by_cases hc : s.clock ≤ b
  · exact few h hm hc ht
  · have := h.tb ht
    have := h.g.n1 ht
    omega
theorem adv_law' {w W : World} {L L' : List Asr} {g : Nat} {s s' : St} {ri ro ri' ro' : RowsL} {ds : List S43} {m : Nat} (now : Int) {A2 : Option Addr} {c2 : Nat} {all : RowsL} {W1 : World} {j : Nat} (h : Apart w (Rt g s ri ro :: L)) (hj : pick j L = Old W1 :: L') (hW : Below w.heap.size w W) (hG : Good s) (hi : Sm ri) (ho : Sm ro)
    (ha : Kd.F kR W (fun k => k < W1.heap.size) A2 all.length all) (hac : all.length ≤ c2) (hs : Sm all) (hmany : s.t = true → mn now late + 1 - s.border ≤ 4002 * s.n) (he : adv s ri ro now all = (s', ri', ro', ds)) (hm : ds.length = m) :
    Calls Try.prog 11 #[.pointer (some ⟨g, 0, none⟩), .int .i64 now, .slice A2 all.length c2] W (fun e w' => ∃ A3 c3, e = .returned (.slice A3 m c3) ∧ Apart w' (Rt g s' ri' ro' :: Dl (.slice A3 m c3) ds :: L)) := by
  obtain ⟨F, hR, _, hl⟩ := Sep.out (h.onto hW)
  have hp := hl.pick j
  rw [hj] at hp
  obtain ⟨FO, hO, hd, _⟩ := Sep.out hp
  subst hm
  exact adv_core now hR (hl.mono (fun k hk => .inr hk)) hG hi ho ha hac hs (fun k hk hF => hd k ((hO.1 k).2 hk) (.inr hF)) hmany he
structure TailF (s : St) (ri ro : RowsL) (a b : Int) (all : RowsL) (s1 : St) (r1 o1 : RowsL) (D1 : List S43) (s3 : St) (r3 o3 : RowsL) (D2 D3 : List S43) (m1 m2 m3 : Nat) : Prop where
  e1 : adv s ri ro a all = (s1, r1, o1, D1)
  e2 : adv s1 r1 o1 b all = (s3, r3, o3, D2)
  e3 : adv s ri ro b all = (s3, r3, o3, D3)
  eD : D1 ++ D2 = D3
  l1 : D1.length = m1
  l2 : D2.length = m2
  l3 : D3.length = m3
  ll : D1.length + D2.length ≤ 100000
  g1 : Good s1
  i1 : Sm r1
  j1 : Sm o1
  i3 : Sm r3
  j3 : Sm o3
  sD : SmD D3
  n1 : s.t = true → mn a late + 1 - s.border ≤ 4002 * s.n
  n2 : s1.t = true → mn b late + 1 - s1.border ≤ 4002 * s1.n
  n3 : s.t = true → mn b late + 1 - s.border ≤ 4002 * s.n
theorem tail_f {s : St} (h : Inv s) {ri ro : RowsL} {a b : Int} {all : RowsL} (si : Sm ri) (so : Sm ro) (sa : Sm all) (hab : a ≤ b) (hb : b ≤ 1125899906842624) (hB : s.t = true → b + 1 - s.border ≤ 4002 * s.n) :
    ∃ s1 r1 o1 D1 s3 r3 o3 D2 D3 m1 m2 m3, TailF s ri ro a b all s1 r1 o1 D1 s3 r3 o3 D2 D3 m1 m2 m3 := by
  have hgo := adv_go h ri ro all hab hb hB
  have hgo2 := adv_go h ri ro all (Int.le_refl b) hb hB
  obtain ⟨p1, p2, p3, p4⟩ := adv_split s ri ro a b all h.g.n1 hab hb hB
  have q1 := adv_Sm (s := s) a all si so
  have q3 := adv_Sm (s := s) b all si so
  have qD := adv_SmD s b si so sa
  have z1 := adv_len s ri ro a all
  have z2 := adv_len (adv s ri ro a all).1 (adv s ri ro a all).2.1 (adv s ri ro a all).2.2.1 b all
  obtain ⟨⟨s1, r1, o1, D1⟩, e1⟩ : ∃ R, adv s ri ro a all = R := ⟨_, rfl⟩
  rw [e1] at hgo p1 p2 p3 p4 q1 z1 z2
  obtain ⟨⟨s3, r3, o3, D3⟩, e3⟩ : ∃ R, adv s ri ro b all = R := ⟨_, rfl⟩
  rw [e3] at p1 p2 p3 p4 q3 qD
  simp only at hgo p1 p2 p3 p4 q1 z1 z2 q3 qD
  obtain ⟨⟨s2, r2, o2, D2⟩, e2⟩ : ∃ R, adv s1 r1 o1 b all = R := ⟨_, rfl⟩
  rw [e2] at p1 p2 p3 p4 z2
  simp only at p1 p2 p3 p4 z2
  subst p1 p2 p3
  exact ⟨s1, r1, o1, D1, s2, r2, o2, D2, D3, _, _, _, e1, e2, e3, p4, rfl, rfl, rfl, by omega, hgo.1, q1.1, q1.2, q3.1, q3.2, qD, hgo.2.2, hgo.2.1, hgo2.2.2⟩
end Go.Proofs.Yteklabhmmfklbaa
namespace Go.Proofs.Yteklabhmmfklbaa
open Go.RowKit Print Go.Proofs.YteklabhmmfklbaaW.PrintWords Go.Proofs.YteklabhmmfklbaaW.PrintLast Go.Proofs.YteklabhmmfklbaaW.PrintMore
set_option linter.unusedVariables false
def okS (k n : Int) (t : Bool) : Prop := (k = 0 ∧ n = 0 ∧ t = false) ∨ ((k = 1 ∨ k = 2 ∨ k = 3 ∨ k = 4) ∧ 1 ≤ n ∧ n ≤ 1099511627776)
theorem j1_form (m : Nat) (x3 : Int) (x6 : Bool) (k n : Int) (t : Bool) : rate_Check.j1 (m + 1) x3 x6 k n t = if x6 = true then (some 0) else (if k ≥ 1 then (if k ≤ 4 then (if n ≥ 1 then (if n ≤ x3 then (some 0) else (some 1)) else (some 1)) else (some 1)) else (some 1)) := by unfold rate_Check.j1; rfl
theorem j0_form (m : Nat) (x3 : Int) (k n : Int) (t : Bool) : rate_Check.j0 (m + 1) x3 k n t = if k = 0 then (if n = 0 then (rate_Check.j1 m x3 (!t) k n t) else (rate_Check.j1 m x3 false k n t)) else (rate_Check.j1 m x3 false k n t) := by unfold rate_Check.j0; rfl
theorem j1_res (m : Nat) (x3 : Int) (k n : Int) (t : Bool) (h3 : x3 ≤ 1099511627776) : (rate_Check.j1 (m + 1) x3 false k n t = some 0 ∧ okS k n t) ∨ rate_Check.j1 (m + 1) x3 false k n t = some 1 := by
  rw [j1_form, if_neg (by decide)]
  by_cases h1 : k ≥ 1
  · rw [if_pos h1]
    by_cases h2 : k ≤ 4
    · rw [if_pos h2]
      by_cases h4 : n ≥ 1
      · rw [if_pos h4]
        by_cases h5 : n ≤ x3
        · rw [if_pos h5]; exact .inl ⟨rfl, .inr ⟨by omega, by omega, by omega⟩⟩
        · rw [if_neg h5]; exact .inr rfl
      · rw [if_neg h4]; exact .inr rfl
    · rw [if_neg h2]; exact .inr rfl
  · rw [if_neg h1]; exact .inr rfl
theorem j0_res (m : Nat) (x3 : Int) (k n : Int) (t : Bool) (h3 : x3 ≤ 1099511627776) : (rate_Check.j0 (m + 2) x3 k n t = some 0 ∧ okS k n t) ∨ rate_Check.j0 (m + 2) x3 k n t = some 1 := by
  rw [j0_form]
  by_cases k0 : k = 0
  · rw [if_pos k0]
    by_cases n0 : n = 0
    · rw [if_pos n0]
      cases t
      · rw [j1_form]
        exact .inl ⟨rfl, .inl ⟨k0, n0, rfl⟩⟩
      · exact j1_res m x3 k n true h3
    · rw [if_neg n0]; exact j1_res m x3 k n t h3
  · rw [if_neg k0]; exact j1_res m x3 k n t h3
theorem check_form (k n : Int) (t : Bool) : (rate_Check.f 4 k n t = some 0 ∧ okS k n t) ∨ rate_Check.f 4 k n t = some 1 := by
  unfold rate_Check.f
  cases t
  · rw [if_neg (by decide)]; exact j0_res 2 65536 k n false (by decide)
  · rw [if_pos rfl]; exact j0_res 2 1099511627776 k n true (by decide)
theorem check_yes {k n : Int} {t : Bool} (h : rate_Check.f 4 k n t = some 0) : okS k n t := by
  rcases check_form k n t with h2 | h2
  · exact h2.2
  · rw [h] at h2; cases h2
end Go.Proofs.Yteklabhmmfklbaa
namespace Go.Proofs.Yteklabhmmfklbaa
open Go.RowKit Print Go.Proofs.YteklabhmmfklbaaW.PrintWords Go.Proofs.YteklabhmmfklbaaW.PrintLast Go.Proofs.YteklabhmmfklbaaW.PrintMore
attribute [local go_sem] max2_int min2_int max_two min_two
set_option linter.unusedVariables false
set_option linter.unusedSimpArgs false
/-- All rows of a list of operations. -/
def tot (l : List O33) : Nat := (l.map fun o => o.2.2.2.1.f0.length + o.2.2.2.1.f1.length).sum
theorem sum_take_le (l : List Nat) (i : Nat) : (l.take i).sum ≤ l.sum := by
  induction l generalizing i with
  | nil => simp
  | cons a l ih =>
    cases i with
    | zero => simp
    | succ i => simp only [List.take_succ_cons, List.sum_cons]; have := ih i; omega
theorem tot_take_le (l : List O33) (i : Nat) : tot (l.take i) ≤ tot l := by
  unfold tot; rw [List.map_take]; exact sum_take_le _ _
theorem rd33_mem {l : List O33} {i : Int} (h0 : 0 ≤ i) (h1 : i < l.length) : rd33 l i ∈ l := by
  unfold rd33; rw [getD_get _ _ _ (by omega)]; exact List.getElem_mem _
theorem tot_step {l : List O33} {i : Int} (h0 : 0 ≤ i) (h1 : i < l.length) : tot (l.take (i + 1).toNat) = tot (l.take i.toNat) + ((rd33 l i).2.2.2.1.f0.length + (rd33 l i).2.2.2.1.f1.length) := by
  have e : (i + 1).toNat = i.toNat + 1 := by omega
  rw [e, List.take_succ_eq_append_getElem (by omega)]
  unfold tot rd33
  rw [getD_get _ _ _ (by omega), List.map_append, List.sum_append]
  simp only [List.map_cons, List.map_nil, List.sum_cons, List.sum_nil, Nat.add_zero]
theorem inv0 {k n : Int} {t : Bool} (h : rate_Check.f 4 k n t = some 0) (h0 : 0 ≤ n) (h1 : n ≤ 1099511627776) : Inv ⟨k, n, t, 0, n, 0, false⟩ := by
  have hc := check_yes h
  unfold okS at hc
  refine ⟨⟨by show k = 0 ∨ k = 1 ∨ k = 2 ∨ k = 3 ∨ k = 4; omega, fun ht => ?_, Int.le_refl _, by show (0 : Int) ≤ late; unfold late; omega, fun ht => ?_, h1, fun _ => h0, fun _ => by show n ≤ 0 + n; omega⟩, ⟨Int.le_refl _, by show (0 : Int) ≤ late; unfold late; omega⟩, fun ht => ?_⟩
  · rcases hc with hc | hc
    · exact absurd (hc.2.2.symm.trans ht) (by decide)
    · have h3 : k ≠ 0 := by omega
      exact h3
  · rcases hc with hc | hc
    · exact absurd (hc.2.2.symm.trans ht) (by decide)
    · exact hc.2.1
  · rcases hc with hc | hc
    · exact absurd (hc.2.2.symm.trans ht) (by decide)
    · show (0 : Int) < n; omega
/-- The two rates go side by side. -/
structure LoopR (W1 : World) (g1 g2 : Nat) (k n : Int) (t : Bool) (l : List O33) (i : Nat) (clock : Int) (A2 : Option Addr) (c2 : Nat) (all : RowsL) (s : St) (ri ro : RowsL) (wr : World) : Prop where
  S : Apart wr [Rt g1 s ri ro, Rt g2 s ri ro, Old W1]
  I : Inv s
  clk : s.clock = clock
  hn : s.n = n
  ht : s.t = t
  si : Sm ri
  so : Sm ro
  li : ri.length + ro.length ≤ tot (l.take i)
  c0 : 0 ≤ clock
  c1 : clock ≤ 1125899906842624
  F : Kd.F kR wr (fun k => k < W1.heap.size) A2 all.length all
  lc : all.length ≤ c2
  sa : Sm all
theorem LoopR.below {W1 wr wx : World} {g1 g2 : Nat} {k n : Int} {t : Bool} {l : List O33} {i : Nat} {clock : Int} {A2 : Option Addr} {c2 : Nat} {all : RowsL} {s : St} {ri ro : RowsL} (h : LoopR W1 g1 g2 k n t l i clock A2 c2 all s ri ro wr) (hb : Below wr.heap.size wr wx) : LoopR W1 g1 g2 k n t l i clock A2 c2 all s ri ro wx :=
  ⟨h.S.onto hb, h.I, h.clk, h.hn, h.ht, h.si, h.so, h.li, h.c0, h.c1, Kd.F_below h.F hb, h.lc, h.sa⟩
theorem LoopR.next {W1 wr : World} {g1 g2 : Nat} {k n : Int} {t : Bool} {l : List O33} {i : Int} {clock : Int} {A2 : Option Addr} {c2 : Nat} {all : RowsL} {s : St} {ri ro : RowsL} (h : LoopR W1 g1 g2 k n t l i.toNat clock A2 c2 all s ri ro wr) (h0 : 0 ≤ i) (h1 : i < l.length) : LoopR W1 g1 g2 k n t l (i + 1).toNat clock A2 c2 all s ri ro wr :=
  ⟨h.S, h.I, h.clk, h.hn, h.ht, h.si, h.so, by rw [tot_step h0 h1]; have := h.li; omega, h.c0, h.c1, h.F, h.lc, h.sa⟩
theorem LoopR.old {W1 wr : World} {g1 g2 : Nat} {k n : Int} {t : Bool} {l : List O33} {i : Nat} {clock : Int} {A2 : Option Addr} {c2 : Nat} {all : RowsL} {s : St} {ri ro : RowsL} (h : LoopR W1 g1 g2 k n t l i clock A2 c2 all s ri ro wr) : Below W1.heap.size W1 wr := Sep.done (h.S.pick 2)
theorem F_move {W1 w' : World} {A : Option Addr} {n : Nat} {xs : RowsL} (h : Kd.F kR W1 (fun k => k < W1.heap.size) A n xs) (h2 : Below W1.heap.size W1 w') : Kd.F kR w' (fun k => k < W1.heap.size) A n xs := Kd.F_below h h2
theorem LoopR.fits {W1 wr : World} {g1 g2 : Nat} {k n : Int} {t : Bool} {l : List O33} {i : Int} {clock : Int} {A2 : Option Addr} {c2 : Nat} {all : RowsL} {s : St} {ri ro : RowsL} (h : LoopR W1 g1 g2 k n t l i.toNat clock A2 c2 all s ri ro wr) (h0 : 0 ≤ i) (h1 : i < l.length) {now : Int}
    (hL : tot l ≤ 1048576 ∧ ∀ o ∈ l, Sm o.2.2.2.1.f0 ∧ Sm o.2.2.2.1.f1 ∧ Sm o.2.2.2.2) (hm : ¬ manyP n t clock now) (hc : ¬ now < clock ∧ ¬ 1125899906842624 < now) : Fits s ri ro now (rd33 l i).2.2.2.1.f0 (rd33 l i).2.2.2.1.f1 (rd33 l i).2.2.2.2 := by
  have hs := hL.2 _ (rd33_mem h0 h1)
  have ht := tot_step h0 h1
  have hle := tot_take_le l (i + 1).toNat
  have hli := h.li
  have h3 := hL.1
  have hclk := h.clk
  exact ⟨h.I.g, h.si, h.so, hs.1, hs.2.1, hs.2.2, h.I.ev, by omega, by omega, by
    rw [nw_eq (by omega) (by omega), mn_late (by omega)]
    exact few h.I (by rw [h.hn, h.ht, h.clk]; exact hm) (by omega)⟩
theorem LoopR.fed {W1 wr w' : World} {g1 g2 : Nat} {k n : Int} {t : Bool} {l : List O33} {i : Int} {clock : Int} {A2 A5 : Option Addr} {c2 c5 : Nat} {all : RowsL} {s : St} {ri ro : RowsL} (h : LoopR W1 g1 g2 k n t l i.toNat clock A2 c2 all s ri ro wr) (h0 : 0 ≤ i) (h1 : i < l.length) {now ev : Int}
    (hL : tot l ≤ 1048576 ∧ ∀ o ∈ l, Sm o.2.2.2.1.f0 ∧ Sm o.2.2.2.1.f1 ∧ Sm o.2.2.2.2) (hm : ¬ manyP n t clock now) (hc : ¬ now < clock ∧ ¬ 1125899906842624 < now) (hF : Kd.F kR W1 (fun k => k < W1.heap.size) A5 (rd33 l i).2.2.2.2.length (rd33 l i).2.2.2.2) (h5 : (rd33 l i).2.2.2.2.length ≤ c5)
    (hS : Apart w' [Rt g1 (feed s ri ro now ev (rd33 l i).2.2.2.1.f0 (rd33 l i).2.2.2.1.f1 (rd33 l i).2.2.2.2).1 (feed s ri ro now ev (rd33 l i).2.2.2.1.f0 (rd33 l i).2.2.2.1.f1 (rd33 l i).2.2.2.2).2.1 (feed s ri ro now ev (rd33 l i).2.2.2.1.f0 (rd33 l i).2.2.2.1.f1 (rd33 l i).2.2.2.2).2.2.1,
      Rt g2 (feed s ri ro now ev (rd33 l i).2.2.2.1.f0 (rd33 l i).2.2.2.1.f1 (rd33 l i).2.2.2.2).1 (feed s ri ro now ev (rd33 l i).2.2.2.1.f0 (rd33 l i).2.2.2.1.f1 (rd33 l i).2.2.2.2).2.1 (feed s ri ro now ev (rd33 l i).2.2.2.1.f0 (rd33 l i).2.2.2.1.f1 (rd33 l i).2.2.2.2).2.2.1, Old W1]) :
    LoopR W1 g1 g2 k n t l (i + 1).toNat now A5 c5 (rd33 l i).2.2.2.2 (feed s ri ro now ev (rd33 l i).2.2.2.1.f0 (rd33 l i).2.2.2.1.f1 (rd33 l i).2.2.2.2).1 (feed s ri ro now ev (rd33 l i).2.2.2.1.f0 (rd33 l i).2.2.2.1.f1 (rd33 l i).2.2.2.2).2.1 (feed s ri ro now ev (rd33 l i).2.2.2.1.f0 (rd33 l i).2.2.2.1.f1 (rd33 l i).2.2.2.2).2.2.1 w' := by
  have hf := h.fits h0 h1 hL hm hc
  have hs := hL.2 _ (rd33_mem h0 h1)
  have ht := tot_step h0 h1
  have hclk := h.clk
  have hli := h.li
  have h00 := h.c0
  obtain ⟨q1, q2, q3, q4, q5⟩ := feed_inv h.I ri ro ev (rd33 l i).2.2.2.1.f0 (rd33 l i).2.2.2.1.f1 (rd33 l i).2.2.2.2 (now := now) (by omega) (by omega) (few h.I (by rw [h.hn, h.ht, h.clk]; exact hm) (by omega))
  obtain ⟨r1, r2, r3, r4⟩ := feed_rows (s := s) ri ro now ev _ _ (rd33 l i).2.2.2.2 hf.i hf.o hf.x hf.y hf.zi hf.zo
  exact ⟨hS, q1, q2, q4.trans h.hn, q5.trans h.ht, r1, r2, by omega, by omega, by omega, F_move hF (Sep.done (hS.pick 2)), h5, hs.2.2⟩
end Go.Proofs.Yteklabhmmfklbaa
namespace Go.Proofs.Yteklabhmmfklbaa
open Go.RowKit Print Go.Proofs.YteklabhmmfklbaaW.PrintWords Go.Proofs.YteklabhmmfklbaaW.PrintLast Go.Proofs.YteklabhmmfklbaaW.PrintMore
set_option linter.unusedVariables false
/-! ### At the rate 'all' no row is lost -/
def flatI (ds : List S43) : RowsL := (ds.map fun d => d.f1.f0).flatten
def flatO (ds : List S43) : RowsL := (ds.map fun d => d.f1.f1).flatten
theorem flatI_app (a b : List S43) : flatI (a ++ b) = flatI a ++ flatI b := by unfold flatI; rw [List.map_append, List.flatten_append]
theorem flatO_app (a b : List S43) : flatO (a ++ b) = flatO a ++ flatO b := by unfold flatO; rw [List.map_append, List.flatten_append]
theorem endD_all (t : Int) (ri ro all : RowsL) : flatI (endD 1 t ri ro all) = ri ∧ flatO (endD 1 t ri ro all) = ro ∧ ∀ x ∈ endD 1 t ri ro all, x.f0 = t := by
  unfold endD
  rw [if_pos (.inl rfl)]
  by_cases z : ri.length + ro.length = 0
  · have h1 : ri = [] := List.length_eq_zero_iff.1 (by omega)
    have h2 : ro = [] := List.length_eq_zero_iff.1 (by omega)
    subst h1 h2
    exact ⟨rfl, rfl, fun x hx => by cases hx⟩
  · rw [if_neg z]
    refine ⟨by simp [flatI], by simp [flatO], fun x hx => ?_⟩
    rw [List.mem_singleton] at hx
    subst hx
    rfl
theorem advL_all (f : Nat) : ∀ (s : St) (ri ro all : RowsL) (acc : List S43), s.k = 1 →
    flatI (advL f s ri ro all acc).2.2.2 ++ (advL f s ri ro all acc).2.1 = flatI acc ++ ri ∧ flatO (advL f s ri ro all acc).2.2.2 ++ (advL f s ri ro all acc).2.2.1 = flatO acc ++ ro ∧
    ∀ x ∈ (advL f s ri ro all acc).2.2.2, x ∈ acc ∨ x.f0 ≤ s.clock := by
  induction f with
  | zero => intro s ri ro all acc _; exact ⟨rfl, rfl, fun x hx => .inl hx⟩
  | succ f ih =>
    intro s ri ro all acc hk
    simp only [advL]
    by_cases h : s.clock < s.border
    · rw [if_pos h]; exact ⟨rfl, rfl, fun x hx => .inl hx⟩
    · rw [if_neg h]
      by_cases hz : nothing s ri ro all
      · rw [if_pos hz]; exact ⟨rfl, rfl, fun x hx => .inl hx⟩
      · rw [if_neg hz]
        obtain ⟨h1, h2, h3⟩ := ih { s with told := false, border := s.border + s.n } [] [] all (acc ++ endD s.k s.border ri ro all) hk
        obtain ⟨e1, e2, e3⟩ := endD_all s.border ri ro all
        rw [hk] at h1 h2 h3 ⊢
        refine ⟨by rw [h1, flatI_app, e1, List.append_nil], by rw [h2, flatO_app, e2, List.append_nil], fun x hx => ?_⟩
        rcases h3 x hx with h4 | h4
        · rcases List.mem_append.1 h4 with h5 | h5
          · exact .inl h5
          · have := e3 x h5; exact .inr (by omega)
        · exact .inr h4
theorem mn_le {a : Int} (h : a ≤ late) : mn a late = a := by unfold mn; rw [if_neg (by omega)]
theorem adv_all {s : St} (hk : s.k = 1) (ri ro : RowsL) {now : Int} (all : RowsL) (hc : s.clock ≤ now) (hl : now ≤ late) :
    flatI (adv s ri ro now all).2.2.2 ++ (adv s ri ro now all).2.1 = ri ∧ flatO (adv s ri ro now all).2.2.2 ++ (adv s ri ro now all).2.2.1 = ro ∧ ∀ x ∈ (adv s ri ro now all).2.2.2, x.f0 ≤ now := by
  unfold adv
  rw [if_neg (by omega), mn_le hl]
  split
  · obtain ⟨h1, h2, h3⟩ := advL_all FU { s with clock := now } ri ro all [] hk
    exact ⟨h1, h2, fun x hx => (h3 x hx).elim (fun h => by cases h) id⟩
  · exact ⟨rfl, rfl, fun x hx => by cases hx⟩
/-- What is fed is told or gathered. -/
theorem feed_all {s : St} (hk : s.k = 1) (ri ro : RowsL) {now : Int} (ev : Int) (xs ys all : RowsL) (hc : s.clock ≤ now) (hl : now ≤ 1125899906842624) :
    flatI (feed s ri ro now ev xs ys all).2.2.2 ++ (feed s ri ro now ev xs ys all).2.1 = ri ++ xs ∧ flatO (feed s ri ro now ev xs ys all).2.2.2 ++ (feed s ri ro now ev xs ys all).2.2.1 = ro ++ ys ∧ ∀ x ∈ (feed s ri ro now ev xs ys all).2.2.2, x.f0 ≤ now := by
  unfold feed
  rw [nw_eq hc hl]
  obtain ⟨h1, h2, h3⟩ := adv_all hk ri ro all hc (by unfold late; omega)
  have hkp := (adv_keeps s ri ro now all).1
  obtain ⟨⟨s1, r1, o1, D1⟩, hR⟩ : ∃ R, adv s ri ro now all = R := ⟨_, rfl⟩
  rw [hR] at h1 h2 h3 hkp ⊢
  simp only at h1 h2 h3 hkp
  have k1 : s1.k = 1 := hkp.trans hk
  have eG : feedG (s1, r1, o1, D1) now xs ys = (s1, r1 ++ xs, o1 ++ ys, D1) := by
    unfold feedG gatD
    simp only [k1]
    rw [if_neg (by decide), if_pos trivial, if_pos trivial]
  unfold feedR
  rw [if_neg (by simp only [k1]; decide), eG]
  unfold feedE
  simp only
  split
  · exact ⟨by rw [← List.append_assoc, h1], by rw [← List.append_assoc, h2], h3⟩
  · split
    · obtain ⟨e1, e2, e3⟩ := endD_all now (r1 ++ xs) (o1 ++ ys) all
      rw [k1]
      refine ⟨by rw [flatI_app, e1, List.append_nil, ← List.append_assoc, h1], by rw [flatO_app, e2, List.append_nil, ← List.append_assoc, h2], fun x hx => ?_⟩
      rcases List.mem_append.1 hx with h | h
      · exact h3 x h
      · have := e3 x h; omega
    · exact ⟨by rw [← List.append_assoc, h1], by rw [← List.append_assoc, h2], h3⟩
/-- At the border nothing is left. -/
theorem advL_last (f : Nat) {s : St} (ri ro all : RowsL) (acc : List S43) (hb : ¬ s.clock < s.border) : (advL (f + 1) s ri ro all acc).2.1 = [] ∧ (advL (f + 1) s ri ro all acc).2.2.1 = [] := by
  simp only [advL]
  rw [if_neg hb]
  by_cases hz : nothing s ri ro all
  · rw [if_pos hz]
    have h := hz.1
    have h1 : ri = [] := List.length_eq_zero_iff.1 (by omega)
    have h2 : ro = [] := List.length_eq_zero_iff.1 (by omega)
    exact ⟨h1, h2⟩
  · rw [if_neg hz]
    obtain ⟨h1, h2⟩ := advL_rows f { s with told := false, border := s.border + s.n } [] [] all (acc ++ endD s.k s.border ri ro all)
    exact ⟨h1.elim id id, h2.elim id id⟩
theorem adv_last {s : St} (h : Inv s) (ht : s.t = true) (ri ro all : RowsL) (hl : s.clock + s.n ≤ late) : (adv s ri ro (s.clock + s.n) all).2.1 = [] ∧ (adv s ri ro (s.clock + s.n) all).2.2.1 = [] := by
  have hn := h.g.n1 ht
  have hb := h.g.b1 ht
  unfold adv
  rw [if_neg (by omega), if_pos ht, mn_le hl]
  exact advL_last 4001 (s := { s with clock := s.clock + s.n }) ri ro all [] (by show ¬ s.clock + s.n < s.border; omega)
/-- So many events end the interval. -/
theorem feed_last {s : St} (h : Inv s) (hk : s.k = 1) (ht : s.t = false) (ri ro all : RowsL) (hn : s.n ≤ 65536) (hl : s.clock ≤ 1125899906842624) :
    (feed s ri ro s.clock 65536 [] [] all).2.1 = [] ∧ (feed s ri ro s.clock 65536 [] [] all).2.2.1 = [] := by
  unfold feed
  rw [nw_eq (Int.le_refl _) hl]
  obtain ⟨k1, n1, t1, e1⟩ := adv_keeps s ri ro s.clock all
  obtain ⟨⟨s1, r1, o1, D1⟩, hR⟩ : ∃ R, adv s ri ro s.clock all = R := ⟨_, rfl⟩
  rw [hR] at k1 n1 t1 e1 ⊢
  simp only at k1 n1 t1 e1
  have he := h.ev
  unfold feedR
  rw [if_neg (by simp only [k1, hk]; decide)]
  have eG : (feedG (s1, r1, o1, D1) s.clock [] []).1 = s1 := by
    unfold feedG
    simp only
    rw [if_neg (by rw [k1, hk]; decide)]
  unfold feedE
  rw [eG, if_neg (by rw [t1, ht]; decide), if_pos]
  · exact ⟨rfl, rfl⟩
  · rw [n1, e1]
    unfold mn mx late at *
    repeat' split
    all_goals omega
end Go.Proofs.Yteklabhmmfklbaa
namespace Go.Proofs.Yteklabhmmfklbaa
open Go.RowKit Print Go.Proofs.YteklabhmmfklbaaW.PrintWords Go.Proofs.YteklabhmmfklbaaW.PrintLast Go.Proofs.YteklabhmmfklbaaW.PrintMore
set_option linter.unusedVariables false
set_option maxHeartbeats 2000000 in
set_option maxRecDepth 100000 in
theorem len_at (g : Nat) (s : St) (A0 : Option Addr) (n0 c0 : Nat) (A1 : Option Addr) (n1 c1 : Nat) (w : World) (h : At 59 w g s (.slice A0 n0 c0) (.slice A1 n1 c1)) (h0 : n0 ≤ 4398046511104) (h1 : n1 ≤ 4398046511104) :
    Calls Try.prog 14 #[.pointer (some ⟨g, 0, none⟩)] w fun e w' => e = .returned (.int .i64 ((n0 : Int) + n1)) ∧ Below w.heap.size w w' := by
  have hu31 := Try.underlying31
  obtain ⟨a0, a1, a2, a3, a4, a5, a6, a7, a8⟩ := h.cells
  clear h
  go_enter Try.func14, Try.ntmps14
  go_upto_region 3 with fail
  go_quiet (fail)
  go_wp2
  go_ret
  exact ⟨rfl, by repeat (first | exact Below.refl _ _ | apply below_alloc | apply pw_below_drewN | apply below_drew1)⟩
theorem len_sep {w W : World} {L L' : List Asr} {g : Nat} {s : St} {ri ro : RowsL} {j : Nat} (h : Apart w L) (hj : pick j L = Rt g s ri ro :: L') (hW : Below w.heap.size w W) (hi : Sm ri) (ho : Sm ro) :
    Calls Try.prog 14 #[.pointer (some ⟨g, 0, none⟩)] W fun e w' => e = .returned (.int .i64 ((ri.length : Int) + ro.length)) ∧ Apart w' L := by
  have h2 := h.onto hW
  have h3 := h2.pick j
  rw [hj] at h3
  obtain ⟨F, ⟨vi, vo, okI, okO, hB, _⟩, _⟩ := Sep.out h3
  have hi1 := hi.1
  have ho1 := ho.1
  obtain ⟨A0, c0, rfl⟩ := Kd.R_slice hB.hi
  obtain ⟨A1, c1, rfl⟩ := Kd.R_slice hB.ho
  exact (len_at g s A0 _ c0 A1 _ c1 W hB.at_ (by omega) (by omega)).mono fun e w' ⟨he, hb⟩ => ⟨he, h2.onto hb⟩
end Go.Proofs.Yteklabhmmfklbaa
namespace Go.Proofs.Yteklabhmmfklbaa
open Go.RowKit Print Go.Proofs.YteklabhmmfklbaaW.PrintWords Go.Proofs.YteklabhmmfklbaaW.PrintLast Go.Proofs.YteklabhmmfklbaaW.PrintMore
set_option linter.unusedVariables false
/-- A box of two rows (block g, its cells bI and bO) and the two rows vI, vO that grow: what is only read lies in E. -/
structure Box (g : Nat) (bI bO vI vO : Value) (lI lO : RowsL) (E : Nat → Prop) (w : World) (F : Nat → Prop) : Prop where
  b : w.heap[g]? = some (.cells #[bI, bO] 31 (0, 0))
  i : Kd.N kR 61 w 0 (fun k => F k ∧ k ≠ g ∧ some k ≠ vO.ownBlock) vI lI
  o : Kd.N kR 61 w 0 (fun k => F k ∧ k ≠ g ∧ some k ≠ vI.ownBlock) vO lO
  e : ∀ k, E k → F k ∧ k ≠ g ∧ some k ≠ vI.ownBlock ∧ some k ≠ vO.ownBlock
  gg : F g
  lt : ∀ k, F k → k < w.heap.size
section
variable {g : Nat} {bI bO vI vO v1 : Value} {lI lO ys : RowsL} {E F F0 S : Nat → Prop} {w w' w1 W W0 : World}
theorem Box.keep (h : Box g bI bO vI vO lI lO E w F) (hk : K3 w w' S) (hd : ∀ k, F k → ¬ S k) : Box g bI bO vI vO lI lO E w' F :=
  ⟨K3.blk h.b hk (hd _ h.gg), Kd.N_kept h.i hk.kept (fun k hf => hd k hf.1), Kd.N_kept h.o hk.kept (fun k hf => hd k hf.1), h.e, h.gg, fun k hf => Nat.lt_of_lt_of_le (h.lt k hf) hk.1⟩
theorem Box.below (h : Box g bI bO vI vO lI lO E w F) (hb : Below w.heap.size w w') : Box g bI bO vI vO lI lO E w' F := h.keep (K3.of_below hb (fun _ => False)) (fun _ _ hs => hs.elim)
theorem Box.grown_i (h : Box g bI bO vI vO lI lO E W F) (hN : Kd.N kR 61 w1 0 (fun k => (F k ∨ W.heap.size ≤ k) ∧ k ≠ g ∧ some k ≠ vO.ownBlock) v1 (lI ++ ys)) (hg : W.grownBy w1 vI.ownBlock) (hat : v1.ownBlock = vI.ownBlock ∨ ∃ b, v1.ownBlock = some b ∧ W.heap.size ≤ b) :
    Box g bI bO v1 vO (lI ++ ys) lO E w1 (fun k => (F k ∨ W.heap.size ≤ k) ∧ k < w1.heap.size) := by
  have hlt : ∀ k, F k → k < w1.heap.size := fun k hk => Nat.lt_of_lt_of_le (h.lt k hk) hg.size
  refine ⟨blk_grown h.b hg (fun e => (h.i.1 g e.symm).2.1 rfl), Kd.N_mono (Kd.N_bound hN) (fun k hk => ⟨⟨hk.1.1, hk.2⟩, hk.1.2.1, hk.1.2.2⟩),
    Kd.N_mono (Kd.N_after (ok := fun k => F k ∧ k ≠ g) (Kd.N_mono h.o (fun k hk => ⟨⟨hk.1, hk.2.1⟩, hk.2.2⟩)) hg hat) (fun k hk => ⟨⟨.inl hk.1.1, hlt k hk.1.1⟩, hk.1.2, hk.2⟩), fun k hk => ?_, ⟨.inl h.gg, hlt _ h.gg⟩, fun k hk => hk.2⟩
  obtain ⟨f, n, ni, no⟩ := h.e k hk
  refine ⟨⟨.inl f, hlt k f⟩, n, ?_, no⟩
  rcases hat with hat | ⟨b, hb, hle⟩
  · rw [hat]; exact ni
  · rw [hb]; intro he; injection he with he; have := h.lt k f; omega
theorem Box.grown_o (h : Box g bI bO vI vO lI lO E W F) (hN : Kd.N kR 61 w1 0 (fun k => (F k ∨ W.heap.size ≤ k) ∧ k ≠ g ∧ some k ≠ vI.ownBlock) v1 (lO ++ ys)) (hg : W.grownBy w1 vO.ownBlock) (hat : v1.ownBlock = vO.ownBlock ∨ ∃ b, v1.ownBlock = some b ∧ W.heap.size ≤ b) :
    Box g bI bO vI v1 lI (lO ++ ys) E w1 (fun k => (F k ∨ W.heap.size ≤ k) ∧ k < w1.heap.size) := by
  have hlt : ∀ k, F k → k < w1.heap.size := fun k hk => Nat.lt_of_lt_of_le (h.lt k hk) hg.size
  refine ⟨blk_grown h.b hg (fun e => (h.o.1 g e.symm).2.1 rfl), Kd.N_mono (Kd.N_after (ok := fun k => F k ∧ k ≠ g) (Kd.N_mono h.i (fun k hk => ⟨⟨hk.1, hk.2.1⟩, hk.2.2⟩)) hg hat) (fun k hk => ⟨⟨.inl hk.1.1, hlt k hk.1.1⟩, hk.1.2, hk.2⟩),
    Kd.N_mono (Kd.N_bound hN) (fun k hk => ⟨⟨hk.1.1, hk.2⟩, hk.1.2.1, hk.1.2.2⟩), fun k hk => ?_, ⟨.inl h.gg, hlt _ h.gg⟩, fun k hk => hk.2⟩
  obtain ⟨f, n, ni, no⟩ := h.e k hk
  refine ⟨⟨.inl f, hlt k f⟩, n, ni, ?_⟩
  rcases hat with hat | ⟨b, hb, hle⟩
  · rw [hat]; exact no
  · rw [hb]; intro he; injection he with he; have := h.lt k f; omega
theorem Box.set_i (h : Box g bI bO vI vO lI lO E w F) (x : Value) : Box g x bO vI vO lI lO E (w.setCell ⟨g, 0, none⟩ x) F :=
  ⟨blk_put h.b 0 x (by simp), Kd.N_far h.i (p := ⟨g, 0, none⟩) (fun k hk => hk.2.1) _, Kd.N_far h.o (p := ⟨g, 0, none⟩) (fun k hk => hk.2.1) _, h.e, h.gg, fun k hk => by simpa [World.setCell] using h.lt k hk⟩
theorem Box.set_o (h : Box g bI bO vI vO lI lO E w F) (x : Value) : Box g bI x vI vO lI lO E (w.setCell ⟨g, 1, none⟩ x) F :=
  ⟨blk_put h.b 1 x (by simp), Kd.N_far h.i (p := ⟨g, 1, none⟩) (fun k hk => hk.2.1) _, Kd.N_far h.o (p := ⟨g, 1, none⟩) (fun k hk => hk.2.1) _, h.e, h.gg, fun k hk => by simpa [World.setCell] using h.lt k hk⟩
/-- On the way: behind W0, of the blocks F0, all but E's. -/
structure Stp (W0 : World) (F0 : Nat → Prop) (g : Nat) (bI bO vI vO : Value) (lI lO : RowsL) (E : Nat → Prop) (w : World) : Prop where
  bx : ∃ F, Box g bI bO vI vO lI lO E w F ∧ ∀ k, F k → F0 k ∨ W0.heap.size ≤ k
  k : K3 W0 w (fun k => F0 k ∧ ¬ E k)
theorem Stp.start (h : Box g bI bO vI vO lI lO E w F) : Stp w F g bI bO vI vO lI lO E w := ⟨⟨F, h, fun _ hk => .inl hk⟩, K3.refl w _⟩
theorem Stp.below (h : Stp W0 F0 g bI bO vI vO lI lO E w) (hb : Below w.heap.size w w') : Stp W0 F0 g bI bO vI vO lI lO E w' := by
  obtain ⟨F, hB, hF⟩ := h.bx
  exact ⟨⟨F, hB.below hb, hF⟩, h.k.below hb⟩
theorem Stp.cells (h : Stp W0 F0 g bI bO vI vO lI lO E w) : w.cell? ⟨g, 0, none⟩ = some bI ∧ w.cell? ⟨g, 1, none⟩ = some bO ∧ w.frozen? ⟨g, 0, none⟩ = false ∧ w.frozen? ⟨g, 1, none⟩ = false := by
  obtain ⟨F, hB, _⟩ := h.bx
  exact ⟨(blk_cell hB.b 0).trans rfl, (blk_cell hB.b 1).trans rfl, blk_frozen hB.b 0, blk_frozen hB.b 1⟩
theorem Stp.read (h : Stp W0 F0 g bI bO vI vO lI lO E w) {p : Addr} {v : Value} (hc : W0.cell? p = some v) (he : E p.block) : w.cell? p = some v := by
  have hb := h.k.block p.block (World.block_lt_of_cell? _ _ hc) (fun hs => hs.2 he)
  simpa [World.cell?, hb] using hc
theorem Stp.rows (h : Stp W0 F0 g bI bO vI vO lI lO E w) {A : Option Addr} {m : Nat} (hr : Kd.F kR W0 E A m ys) : Kd.F kR w E A m ys := K3.F hr h.k (fun k he hs => hs.2 he)
theorem Stp.set_i (h : Stp W0 F0 g bI bO vI vO lI lO E w) (x : Value) : Stp W0 F0 g x bO vI vO lI lO E (w.setCell ⟨g, 0, none⟩ x) := by
  obtain ⟨F, hB, hF⟩ := h.bx
  exact ⟨⟨F, hB.set_i x, hF⟩, h.k.setCell (p := ⟨g, 0, none⟩) ((hF g hB.gg).imp (fun hf => ⟨hf, fun he => (hB.e g he).2.1 rfl⟩) id) _⟩
theorem Stp.set_o (h : Stp W0 F0 g bI bO vI vO lI lO E w) (x : Value) : Stp W0 F0 g bI x vI vO lI lO E (w.setCell ⟨g, 1, none⟩ x) := by
  obtain ⟨F, hB, hF⟩ := h.bx
  exact ⟨⟨F, hB.set_o x, hF⟩, h.k.setCell (p := ⟨g, 1, none⟩) ((hF g hB.gg).imp (fun hf => ⟨hf, fun he => (hB.e g he).2.1 rfl⟩) id) _⟩
end
section
variable {g : Nat} {bI bO vI vO : Value} {lI lO ys : RowsL} {E F0 : Nat → Prop} {W W0 : World} {ops : Array Oper} {o : Oper} {a : Act} {Q : Exit → Act → World → Prop} {Kc : Act → World → Prop}
theorem Stp.in_step (h : Stp W0 F0 g bI bO vI vO lI lO E W) {A : Option Addr} {m c : Nat} (hr : Kd.F kR W0 E A m ys) (hw : Region.wanted o (yielded ops a.tmps) = true) (s x : Operand) (ho : o.op = .call { callee := .builtin .append, args := #[s, x], argTypes := #[29, 29] })
    (hs : a.eval s = vI) (hx : a.eval x = .slice A m c) (hl : lI.length + m ≤ 4194304)
    (next : ∀ A1 c1 w1, Stp W0 F0 g bI bO (.slice A1 (lI ++ ys).length c1) vO (lI ++ ys) lO E w1 → Kc (a.put o.dst (.slice A1 (lI ++ ys).length c1)) w1) :
    if Region.wanted o (yielded ops a.tmps) = true then Oper.wp Try.prog o a W Kc Q else Kc (a.put o.dst undef) W := by
  obtain ⟨F, hB, hF⟩ := h.bx
  have hO : Kd.N kR 61 W 0 (fun k => (F k ∨ W.heap.size ≤ k) ∧ k ≠ g ∧ some k ≠ vO.ownBlock) vI lI := Kd.N_mono hB.i (fun k hk => ⟨.inl hk.1, hk.2⟩)
  refine Kd.N_append_rows_step kR (w0 := W) 0 hw s x 29 61 (.slice none 0 0) 24 ho Try.underlying29 info61 rfl (by decide) (by omega) vI lI ys A m c _ E hs hx hO (h.rows hr) (fun k he => ⟨⟨.inl (hB.e k he).1, (hB.e k he).2.1, (hB.e k he).2.2.2⟩, (hB.e k he).2.2.1⟩)
    (fun k hk => ⟨.inr hk, fun e => by have := hB.lt g hB.gg; omega, fun e => by have := Kd.N_lt hB.o k e.symm; omega⟩) (Below.refl _ _) (Nat.zero_le _) (by omega) ?_
  intro v1 w1 hN _ hg hat
  obtain ⟨A1, c1, rfl⟩ := Kd.N_slice hN
  refine next A1 c1 w1 ⟨⟨_, hB.grown_i hN hg hat, fun k hk => hk.1.elim (hF k) (fun h' => .inr (Nat.le_trans h.k.size h'))⟩, K3.of_grown hg h.k (fun k hk => ?_)⟩
  exact (hF k (hB.i.1 k hk).1).imp (fun hf => ⟨hf, fun he => (hB.e k he).2.2.1 hk.symm⟩) id
theorem Stp.out_step (h : Stp W0 F0 g bI bO vI vO lI lO E W) {A : Option Addr} {m c : Nat} (hr : Kd.F kR W0 E A m ys) (hw : Region.wanted o (yielded ops a.tmps) = true) (s x : Operand) (ho : o.op = .call { callee := .builtin .append, args := #[s, x], argTypes := #[29, 29] })
    (hs : a.eval s = vO) (hx : a.eval x = .slice A m c) (hl : lO.length + m ≤ 4194304)
    (next : ∀ A1 c1 w1, Stp W0 F0 g bI bO vI (.slice A1 (lO ++ ys).length c1) lI (lO ++ ys) E w1 → Kc (a.put o.dst (.slice A1 (lO ++ ys).length c1)) w1) :
    if Region.wanted o (yielded ops a.tmps) = true then Oper.wp Try.prog o a W Kc Q else Kc (a.put o.dst undef) W := by
  obtain ⟨F, hB, hF⟩ := h.bx
  have hO : Kd.N kR 61 W 0 (fun k => (F k ∨ W.heap.size ≤ k) ∧ k ≠ g ∧ some k ≠ vI.ownBlock) vO lO := Kd.N_mono hB.o (fun k hk => ⟨.inl hk.1, hk.2⟩)
  refine Kd.N_append_rows_step kR (w0 := W) 0 hw s x 29 61 (.slice none 0 0) 24 ho Try.underlying29 info61 rfl (by decide) (by omega) vO lO ys A m c _ E hs hx hO (h.rows hr) (fun k he => ⟨⟨.inl (hB.e k he).1, (hB.e k he).2.1, (hB.e k he).2.2.1⟩, (hB.e k he).2.2.2⟩)
    (fun k hk => ⟨.inr hk, fun e => by have := hB.lt g hB.gg; omega, fun e => by have := Kd.N_lt hB.i k e.symm; omega⟩) (Below.refl _ _) (Nat.zero_le _) (by omega) ?_
  intro v1 w1 hN _ hg hat
  obtain ⟨A1, c1, rfl⟩ := Kd.N_slice hN
  refine next A1 c1 w1 ⟨⟨_, hB.grown_o hN hg hat, fun k hk => hk.1.elim (hF k) (fun h' => .inr (Nat.le_trans h.k.size h'))⟩, K3.of_grown hg h.k (fun k hk => ?_)⟩
  exact (hF k (hB.o.1 k hk).1).imp (fun hf => ⟨hf, fun he => (hB.e k he).2.2.2 hk.symm⟩) id
end
/-- What was fed: the elements lie in the memory of w0; nothing of that was touched. -/
def Fed (w0 : World) (g : Nat) (lI lO : RowsL) : Asr where
  P w F := Below w0.heap.size w0 w ∧ ∃ vI vO, Box g vI vO vI vO lI lO (fun k => k < w0.heap.size) w F
  lt h := by obtain ⟨_, _, _, h⟩ := h; exact h.lt
  keep h hk hd := by
    obtain ⟨hb, vI, vO, h⟩ := h
    exact ⟨K3.to_below hb hk (fun k hs => Nat.le_of_not_lt (fun hl => hd k (h.e k hl).1 hs)), vI, vO, h.keep hk hd⟩
/-- What was told, and the deliveries that are told. -/
def Told (g : Nat) (lI lO : RowsL) (v : Value) (ds : List S43) : Asr where
  P w F := ∃ vI vO E, Box g vI vO vI vO lI lO E w F ∧ k43.R 43 w 0 E v ds
  lt h := by obtain ⟨_, _, _, h, _⟩ := h; exact h.lt
  keep h hk hd := by
    obtain ⟨vI, vO, E, h, hR⟩ := h
    exact ⟨vI, vO, E, h.keep hk hd, K3.R hR hk (fun k he => hd k (h.e k he).1)⟩
section
variable {g : Nat} {vI vO v v' : Value} {lI lO : RowsL} {ds ds' : List S43} {E F0 : Nat → Prop} {w w0 W0 : World} {L : List Asr}
theorem fed_open (h : Apart W0 (Fed w0 g lI lO :: L)) : ∃ vI vO F0, Stp W0 F0 g vI vO vI vO lI lO (fun k => k < w0.heap.size) W0 ∧ Below w0.heap.size w0 W0 ∧ Sep W0 L (fun k => False ∨ F0 k) := by
  obtain ⟨F, ⟨hb, vI, vO, hB⟩, _, hl⟩ := Sep.out h
  exact ⟨vI, vO, F, Stp.start hB, hb, hl⟩
theorem fed_done (h : Stp W0 F0 g vI vO vI vO lI lO (fun k => k < w0.heap.size) w) (hb : Below w0.heap.size w0 W0) (hl : Sep W0 L (fun k => False ∨ F0 k)) : Apart w (Fed w0 g lI lO :: L) := by
  obtain ⟨F, hB, hF⟩ := h.bx
  refine ⟨F, ⟨K3.to_below hb h.k (fun k hs => Nat.le_of_not_lt hs.2), vI, vO, hB⟩, fun _ _ hf => hf, hl.frame h.k (fun k hs => .inr hs.1) (fun k hu => ?_)⟩
  rcases hu with hu | hu
  · exact hu.elim
  · exact (hF k hu).imp .inr id
theorem told_open (h : Apart W0 (Told g lI lO v ds :: L)) : ∃ vI vO E F0, Stp W0 F0 g vI vO vI vO lI lO E W0 ∧ k43.R 43 W0 0 E v ds ∧ Sep W0 L (fun k => False ∨ F0 k) := by
  obtain ⟨F, ⟨vI, vO, E, hB, hR⟩, _, hl⟩ := Sep.out h
  exact ⟨vI, vO, E, F, Stp.start hB, hR, hl⟩
theorem told_done (h : Stp W0 F0 g vI vO vI vO lI lO E w) (hR : k43.R 43 W0 0 E v ds) (hl : Sep W0 L (fun k => False ∨ F0 k)) : Apart w (Told g lI lO v ds :: L) := by
  obtain ⟨F, hB, hF⟩ := h.bx
  refine ⟨F, ⟨vI, vO, E, hB, K3.R hR h.k (fun k he hs => hs.2 he)⟩, fun _ _ hf => hf, hl.frame h.k (fun k hs => .inr hs.1) (fun k hu => ?_)⟩
  rcases hu with hu | hu
  · exact hu.elim
  · exact (hF k hu).imp .inr id
/-- Other deliveries are told next. -/
theorem told_next (h : Apart w (Told g lI lO v ds :: Dl v' ds' :: L)) : Apart w (Told g lI lO v' ds' :: L) := by
  obtain ⟨F, ⟨vI, vO, E, hB, _⟩, _, hl⟩ := Sep.out h
  obtain ⟨F2, ⟨hR, hlt⟩, hd, hl2⟩ := Sep.out hl
  have nd : ∀ k, F2 k → ¬ F k := fun k hk hf => hd k hk (.inr hf)
  refine ⟨fun k => F k ∨ F2 k, ⟨vI, vO, F2, ⟨hB.b, Kd.N_mono hB.i (fun k hk => ⟨.inl hk.1, hk.2⟩), Kd.N_mono hB.o (fun k hk => ⟨.inl hk.1, hk.2⟩), fun k hk => ⟨.inr hk, fun e => nd k hk (e ▸ hB.gg), fun e => nd k hk (hB.i.1 k e.symm).1, fun e => nd k hk (hB.o.1 k e.symm).1⟩, .inl hB.gg, fun k hk => hk.elim (hB.lt k) (hlt k)⟩, hR⟩, fun _ _ hf => hf, hl2.mono (fun k hk => ?_)⟩
  rcases hk with hk | hk | hk
  · exact hk.elim
  · exact .inl (.inr hk)
  · exact .inr hk
/-- A box made anew. -/
theorem fed_new (h : Apart w (Old w0 :: L)) : Apart (w.alloc (.cells #[.slice none 0 0, .slice none 0 0] 31)) (Fed w0 w.heap.size [] [] :: L) := by
  obtain ⟨F, ⟨hF, hb⟩, _, hl⟩ := Sep.out h
  have al := below_alloc (Below.refl w.heap.size w) (.cells #[.slice none 0 0, .slice none 0 0] 31)
  have hs : (w.alloc (.cells #[.slice none 0 0, .slice none 0 0] 31)).heap.size = w.heap.size + 1 := by simp
  refine ⟨fun k => F k ∨ k = w.heap.size, ⟨below_step hb al, .slice none 0 0, .slice none 0 0, ⟨heap_alloc_new w _, Kd.N_nil _ _ _ _ _, Kd.N_nil _ _ _ _ _, fun k hk => ⟨.inl ((hF k).2 hk), fun e => ?_, fun e => ?_, fun e => ?_⟩, .inr rfl, fun k hk => ?_⟩⟩, fun _ _ hf => hf, hl.frame (K3.of_below al (fun _ => False)) (fun _ hs => hs.elim) (fun k hu => ?_)⟩
  · have := hb.size; have hk' : k < w0.heap.size := hk; omega
  · cases e
  · cases e
  · rw [hs]
    rcases hk with hk | hk
    · have := (hF k).1 hk; have := hb.size; omega
    · omega
  · rcases hu with hu | hu | hu
    · exact hu.elim
    · exact .inl (.inr hu)
    · exact .inr (by omega)
theorem told_new (h : Apart w L) : Apart (w.alloc (.cells #[.slice none 0 0, .slice none 0 0] 31)) (Told w.heap.size [] [] (.slice none 0 0) [] :: L) := by
  have al := below_alloc (Below.refl w.heap.size w) (.cells #[.slice none 0 0, .slice none 0 0] 31)
  have hs : (w.alloc (.cells #[.slice none 0 0, .slice none 0 0] 31)).heap.size = w.heap.size + 1 := by simp
  exact Sep.new (F := fun k => k = w.heap.size) h al ⟨.slice none 0 0, .slice none 0 0, fun _ => False, ⟨heap_alloc_new w _, Kd.N_nil _ _ _ _ _, Kd.N_nil _ _ _ _ _, fun _ hk => hk.elim, rfl, fun k hk => by rw [hs]; omega⟩, Kd.R_nil _ _ _ _ _⟩ (fun k hk => by omega)
end
end Go.Proofs.Yteklabhmmfklbaa
namespace Go.Proofs.Yteklabhmmfklbaa
open Go.RowKit Print Go.Proofs.YteklabhmmfklbaaW.PrintWords Go.Proofs.YteklabhmmfklbaaW.PrintLast Go.Proofs.YteklabhmmfklbaaW.PrintMore
set_option linter.unusedVariables false
/-! ### What the walk of the law of RateLoses leans on -/
def fI (l : List O33) : RowsL := (l.map fun o => o.2.2.2.1.f0).flatten
def fO (l : List O33) : RowsL := (l.map fun o => o.2.2.2.1.f1).flatten
theorem fI_step {l : List O33} {i : Int} (h0 : 0 ≤ i) (h1 : i < l.length) : fI (l.take (i + 1).toNat) = fI (l.take i.toNat) ++ (rd33 l i).2.2.2.1.f0 := by
  have e : (i + 1).toNat = i.toNat + 1 := by omega
  rw [e, List.take_succ_eq_append_getElem (by omega)]
  unfold fI rd33
  rw [getD_get _ _ _ (by omega), List.map_append, List.flatten_append]
  simp
theorem fO_step {l : List O33} {i : Int} (h0 : 0 ≤ i) (h1 : i < l.length) : fO (l.take (i + 1).toNat) = fO (l.take i.toNat) ++ (rd33 l i).2.2.2.1.f1 := by
  have e : (i + 1).toNat = i.toNat + 1 := by omega
  rw [e, List.take_succ_eq_append_getElem (by omega)]
  unfold fO rd33
  rw [getD_get _ _ _ (by omega), List.map_append, List.flatten_append]
  simp
theorem f_len (l : List O33) : (fI l).length + (fO l).length = tot l := by
  unfold fI fO tot
  induction l with
  | nil => simp
  | cons o l ih => simp only [List.map_cons, List.flatten_cons, List.length_append, List.sum_cons]; omega
theorem Sep.fed {w w0 : World} {g : Nat} {a b : RowsL} {L : List Asr} (h : Apart w (Fed w0 g a b :: L)) : Below w0.heap.size w0 w := h.choose_spec.1.1
/-- Feed, of rows of the arguments, beside what was fed. -/
theorem feed_fed {w W w0 : World} {L L' : List Asr} {g gF : Nat} {s : St} {ri ro lI lO : RowsL} (now ev : Int) {A A' : Option Addr} {c c' : Nat} {xs ys : RowsL} {j : Nat} (h : Apart w (Rt g s ri ro :: L)) (hj : pick j L = Fed w0 gF lI lO :: L') (hW : Below w.heap.size w W) (hf : Fits s ri ro now xs ys [])
    (hx : Kd.F kR W (fun k => k < w0.heap.size) A xs.length xs) (hxc : xs.length ≤ c) (hy : Kd.F kR W (fun k => k < w0.heap.size) A' ys.length ys) (hyc : ys.length ≤ c') {s' : St} {ri' ro' : RowsL} {ds : List S43} (he : feed s ri ro now ev xs ys [] = (s', ri', ro', ds)) {m : Nat} (hm : ds.length = m) :
    Calls Try.prog 10 #[.pointer (some ⟨g, 0, none⟩), .int .i64 now, .int .i64 ev, .agg #[.slice A xs.length c, .slice A' ys.length c'], .slice none 0 0] W (fun e w' => ∃ A3 c3, e = .returned (.slice A3 m c3) ∧ Apart w' (Rt g s' ri' ro' :: Dl (.slice A3 m c3) ds :: L)) := by
  subst hm
  obtain ⟨F, hR, _, hl⟩ := Sep.out (h.onto hW)
  have hp := hl.pick j
  rw [hj] at hp
  obtain ⟨FO, ⟨_, vI, vO, hB⟩, hd, _⟩ := Sep.out hp
  exact feed_core (all := []) (A2 := none) (c2 := 0) now ev hR (hl.mono (fun k hk => .inr hk)) hf hx hxc hy hyc (Kd.F_nil _ _ _) (Nat.le_refl _) (fun k hk hF => hd k (hB.e k hk).1 (.inr hF)) he
/-- One delivery of some: its cells. -/
theorem at43 {w : World} {E : Nat → Prop} {A : Option Addr} {m c : Nat} {ds : List S43} (h : k43.R 43 w 0 E (.slice A m c) ds) (i : Int) (h0 : 0 ≤ i) (h1 : i < m) : ∃ ad A0 c0 A1 c1, A = some ad ∧ E ad.block ∧
    w.cell? (ad.add (i.toNat * 3)) = some (.int .i64 (rd_T43 ds i).f0) ∧ w.cell? ⟨(ad.add (i.toNat * 3)).block, (ad.add (i.toNat * 3)).off + 1, none⟩ = some (.slice A0 (rd_T43 ds i).f1.f0.length c0) ∧ w.cell? ⟨(ad.add (i.toNat * 3)).block, (ad.add (i.toNat * 3)).off + 2, none⟩ = some (.slice A1 (rd_T43 ds i).f1.f1.length c1) ∧
    Kd.F kR w E A0 (rd_T43 ds i).f1.f0.length (rd_T43 ds i).f1.f0 ∧ Kd.F kR w E A1 (rd_T43 ds i).f1.f1.length (rd_T43 ds i).f1.f1 := by
  obtain ⟨rfl, _⟩ := Kd.R_reads' h
  obtain ⟨ad, cs, rfl, hcl, hK, hcc0, hE⟩ := Kd.F_get (Kd.R_F h) z43 i h0 h1
  have hcc : ∀ j u, cs[j]? = some u → w.cell? (ad.add (i.toNat * 3 + j)) = some u := hcc0
  obtain ⟨A0, c0, A1, c1, rfl, l0, f0, l1, f1⟩ := k43_openF hK
  refine ⟨ad, A0, c0, A1, c1, rfl, hE (by decide), hcc 0 _ rfl, ?_, ?_, f0, f1⟩
  · rw [← add_field _ _ 1 (by omega)]; exact hcc 1 _ rfl
  · rw [← add_field _ _ 2 (by omega)]; exact hcc 2 _ rfl
theorem rd43_take {ds : List S43} {i : Int} (h0 : 0 ≤ i) (h1 : i < ds.length) : flatI (ds.take (i + 1).toNat) = flatI (ds.take i.toNat) ++ (rd_T43 ds i).f1.f0 ∧ flatO (ds.take (i + 1).toNat) = flatO (ds.take i.toNat) ++ (rd_T43 ds i).f1.f1 ∧ rd_T43 ds i ∈ ds := by
  have e : (i + 1).toNat = i.toNat + 1 := by omega
  have hx : rd_T43 ds i = ds[i.toNat]'(by omega) := by unfold rd_T43; exact getD_get _ _ _ (by omega)
  rw [e, List.take_succ_eq_append_getElem (by omega), flatI_app, flatO_app, hx]
  exact ⟨by simp [flatI], by simp [flatO], List.getElem_mem _⟩
/-- What goes on beside the memory. -/
structure LoopP (n : Int) (t : Bool) (l : List O33) (i : Nat) (clock : Int) (s : St) (tI tO ri ro : RowsL) : Prop where
  I : Inv s
  hk : s.k = 1
  clk : s.clock = clock
  hn : s.n = n
  ht : s.t = t
  si : Sm ri
  so : Sm ro
  eI : tI ++ ri = fI (l.take i)
  eO : tO ++ ro = fO (l.take i)
  c0 : 0 ≤ clock
  c1 : clock ≤ 1125899906842624
section
variable {n clock now : Int} {t : Bool} {l : List O33} {i : Int} {s : St} {tI tO ri ro : RowsL}
theorem LoopP.lens (h : LoopP n t l i.toNat clock s tI tO ri ro) (htot : tot l ≤ 1048576) : (fI (l.take i.toNat)).length + (fO (l.take i.toNat)).length ≤ 1048576 ∧ tI.length + ri.length = (fI (l.take i.toNat)).length ∧ tO.length + ro.length = (fO (l.take i.toNat)).length := by
  have h1 := f_len (l.take i.toNat)
  have h2 := tot_take_le l i.toNat
  have h3 := congrArg List.length h.eI
  have h4 := congrArg List.length h.eO
  rw [List.length_append] at h3 h4
  omega
theorem LoopP.fits (h : LoopP n t l i.toNat clock s tI tO ri ro) (h0 : 0 ≤ i) (h1 : i < l.length) (hL : tot l ≤ 1048576 ∧ ∀ o ∈ l, Sm o.2.2.2.1.f0 ∧ Sm o.2.2.2.1.f1 ∧ Sm o.2.2.2.2) (hm : ¬ manyP n t clock now) (hc : clock ≤ now ∧ now ≤ 1125899906842624) :
    Fits s ri ro now (rd33 l i).2.2.2.1.f0 (rd33 l i).2.2.2.1.f1 [] := by
  have hs := hL.2 _ (rd33_mem h0 h1)
  have ht := tot_step h0 h1
  have hle := tot_take_le l (i + 1).toNat
  have hln := h.lens hL.1
  have hcl := h.clk
  have h3 := f_len (l.take i.toNat)
  have h4 := hL.1
  exact ⟨h.I.g, h.si, h.so, hs.1, hs.2.1, Sm.nil, h.I.ev, by omega, by omega, by
    rw [nw_eq (by omega) (by omega), mn_late (by omega)]
    exact few h.I (by rw [h.hn, h.ht, h.clk]; exact hm) (by omega)⟩
theorem LoopP.fed (h : LoopP n t l i.toNat clock s tI tO ri ro) (h0 : 0 ≤ i) (h1 : i < l.length) (hL : tot l ≤ 1048576 ∧ ∀ o ∈ l, Sm o.2.2.2.1.f0 ∧ Sm o.2.2.2.1.f1 ∧ Sm o.2.2.2.2) (hm : ¬ manyP n t clock now) (hc : clock ≤ now ∧ now ≤ 1125899906842624) (ev : Int)
    {s' : St} {ri' ro' : RowsL} {ds : List S43} (he : feed s ri ro now ev (rd33 l i).2.2.2.1.f0 (rd33 l i).2.2.2.1.f1 [] = (s', ri', ro', ds)) :
    LoopP n t l (i + 1).toNat now s' (tI ++ flatI ds) (tO ++ flatO ds) ri' ro' ∧ ∀ x ∈ ds, x.f0 ≤ now := by
  have hf := h.fits h0 h1 hL hm hc
  have hcl := h.clk
  have h00 := h.c0
  obtain ⟨q1, q2, q3, q4, q5⟩ := feed_inv h.I ri ro ev (rd33 l i).2.2.2.1.f0 (rd33 l i).2.2.2.1.f1 [] (now := now) (by omega) (by omega) (few h.I (by rw [h.hn, h.ht, h.clk]; exact hm) (by omega))
  obtain ⟨r1, r2, r3, r4⟩ := feed_rows (s := s) ri ro now ev _ _ [] hf.i hf.o hf.x hf.y hf.zi hf.zo
  obtain ⟨a1, a2, a3⟩ := feed_all h.hk ri ro ev (rd33 l i).2.2.2.1.f0 (rd33 l i).2.2.2.1.f1 [] (now := now) (by omega) (by omega)
  rw [he] at q1 q2 q3 q4 q5 r1 r2 a1 a2 a3
  simp only at q1 q2 q3 q4 q5 r1 r2 a1 a2 a3
  exact ⟨⟨q1, q3.trans h.hk, q2, q4.trans h.hn, q5.trans h.ht, r1, r2, by rw [fI_step h0 h1, List.append_assoc, a1, ← List.append_assoc, h.eI], by rw [fO_step h0 h1, List.append_assoc, a2, ← List.append_assoc, h.eO], by omega, hc.2⟩, a3⟩
end
/-- How many rows are gathered; nothing is touched. -/
theorem len_any {w W : World} {L L' : List Asr} {g : Nat} {s : St} {ri ro : RowsL} {j : Nat} (h : Apart w L) (hj : pick j L = Rt g s ri ro :: L') (hW : Below w.heap.size w W) (hi : Sm ri) (ho : Sm ro) {m : Int} (hm : (ri.length : Int) + ro.length = m) :
    Calls Try.prog 14 #[.pointer (some ⟨g, 0, none⟩)] W fun e w' => e = .returned (.int .i64 m) ∧ Below W.heap.size W w' := by
  subst hm
  have h3 := (h.onto hW).pick j
  rw [hj] at h3
  obtain ⟨F, ⟨vi, vo, okI, okO, hB, _⟩, _⟩ := Sep.out h3
  have hi1 := hi.1
  have ho1 := ho.1
  obtain ⟨A0, c0, rfl⟩ := Kd.R_slice hB.hi
  obtain ⟨A1, c1, rfl⟩ := Kd.R_slice hB.ho
  exact len_at g s A0 _ c0 A1 _ c1 W hB.at_ (by omega) (by omega)
/-- What the boxes hold. -/
structure Reads2 (w : World) (g : Nat) (A : Option Addr) (c : Nat) (A' : Option Addr) (c' : Nat) (lI lO : RowsL) : Prop where
  c0 : w.cell? ⟨g, 0, none⟩ = some (.slice A lI.length c)
  c1 : w.cell? ⟨g, 1, none⟩ = some (.slice A' lO.length c')
  l0 : lI.length ≤ c
  l1 : lO.length ≤ c'
  i : kR.C w A lI.length lI
  o : kR.C w A' lO.length lO
theorem Box.reads2 {g : Nat} {vI vO : Value} {lI lO : RowsL} {E F : Nat → Prop} {w : World} (h : Box g vI vO vI vO lI lO E w F) : ∃ A c A' c', Reads2 w g A c A' c' lI lO := by
  obtain ⟨A, c, rfl, l0, i⟩ := Kd.N_reads h.i
  obtain ⟨A', c', rfl, l1, o⟩ := Kd.N_reads h.o
  exact ⟨A, c, A', c', (blk_cell h.b 0).trans rfl, (blk_cell h.b 1).trans rfl, l0, l1, i, o⟩
theorem fed_reads {w w0 : World} {L L' : List Asr} {g : Nat} {lI lO : RowsL} {j : Nat} (h : Apart w L) (hj : pick j L = Fed w0 g lI lO :: L') : ∃ A c A' c', Reads2 w g A c A' c' lI lO := by
  have h3 := h.pick j
  rw [hj] at h3
  obtain ⟨F, ⟨_, vI, vO, hB⟩, _⟩ := Sep.out h3
  exact hB.reads2
theorem told_reads {w : World} {L L' : List Asr} {g : Nat} {lI lO : RowsL} {v : Value} {ds : List S43} {j : Nat} (h : Apart w L) (hj : pick j L = Told g lI lO v ds :: L') : ∃ A c A' c', Reads2 w g A c A' c' lI lO := by
  have h3 := h.pick j
  rw [hj] at h3
  obtain ⟨F, ⟨vI, vO, E, hB, _⟩, _⟩ := Sep.out h3
  exact hB.reads2
theorem Reads2.below {w w' : World} {g : Nat} {A A' : Option Addr} {c c' : Nat} {lI lO : RowsL} (h : Reads2 w g A c A' c' lI lO) (hb : Below w.heap.size w w') : Reads2 w' g A c A' c' lI lO :=
  ⟨pw_cell_below hb h.c0, pw_cell_below hb h.c1, h.l0, h.l1, Kd.C_below h.i hb, Kd.C_below h.o hb⟩
theorem samerows_any {w : World} {A A' : Option Addr} {c c' n n' : Nat} {l : RowsL} (h : kR.C w A l.length l) (hc : l.length ≤ c) (h' : kR.C w A' l.length l) (hc' : l.length ≤ c') (hs : Sm l) (hn : l.length = n) (hn' : l.length = n') :
    Calls Try.prog 15 #[.slice A n c, .slice A' n' c'] w fun e w' => e = .returned (.bool true) ∧ Below w.heap.size w w' := by
  subst hn hn'
  obtain ⟨k, hk⟩ := (rows_same l hs).rounds
  exact (marqueeref03_SameRows.calls k A c l A' c' l true w h hc h' hc' hk).mono fun e w' ⟨he, hd⟩ => ⟨he, hd.below⟩
end Go.Proofs.Yteklabhmmfklbaa
namespace Go.Proofs.Yteklabhmmfklbaa
open Go.RowKit Print Go.Proofs.YteklabhmmfklbaaW.PrintWords Go.Proofs.YteklabhmmfklbaaW.PrintLast Go.Proofs.YteklabhmmfklbaaW.PrintMore
set_option linter.unusedVariables false
/-! ### The end of the law of RateLoses -/
theorem endD_len (k t : Int) (ri ro all : RowsL) : (endD k t ri ro all).length ≤ 1 := by
  unfold endD
  repeat' split
  all_goals simp
theorem feed_len (s : St) (ri ro : RowsL) (now ev : Int) (xs ys all : RowsL) : (feed s ri ro now ev xs ys all).2.2.2.length ≤ 4010 := by
  unfold feed
  have h := adv_len s ri ro (mn (mx now s.clock) late) all
  obtain ⟨R, hR⟩ : ∃ R, adv s ri ro (mn (mx now s.clock) late) all = R := ⟨_, rfl⟩
  rw [hR] at h ⊢
  have hG : (feedG R (mn (mx now s.clock) late) xs ys).2.2.2.length ≤ 4003 := by
    unfold feedG
    repeat' split
    all_goals (try simp only [List.length_append, List.length_cons, List.length_nil])
    all_goals omega
  unfold feedR
  split
  · simp only
    split
    · simp only [List.length_append, List.length_cons, List.length_nil]; omega
    · omega
  · obtain ⟨G, hGe⟩ : ∃ G, feedG R (mn (mx now s.clock) late) xs ys = G := ⟨_, rfl⟩
    rw [hGe] at hG ⊢
    have h2 := endD_len G.1.k (mn (mx now s.clock) late) G.2.1 G.2.2.1 all
    unfold feedE
    repeat' split
    all_goals (try simp only [List.length_append])
    all_goals omega
/-- What is told at the end. -/
structure EndF (n : Int) (t : Bool) (clock : Int) (s : St) (ri ro : RowsL) (s1 : St) (r1 o1 : RowsL) (D1 : List S43) (m1 : Nat) (s2 : St) (r2 o2 : RowsL) (D2 : List S43) (m2 : Nat) : Prop where
  e1 : feed s ri ro clock 65536 [] [] [] = (s1, r1, o1, D1)
  l1 : D1.length = m1
  e2 : adv s1 r1 o1 (clock + n) [] = (s2, r2, o2, D2)
  l2 : D2.length = m2
  f : Fits s ri ro clock [] [] []
  g1 : Good s1
  i1 : Sm r1
  j1 : Sm o1
  mny : s1.t = true → mn (clock + n) late + 1 - s1.border ≤ 4002 * s1.n
  ll : D1.length + D2.length ≤ 100000
  no : t = false → r1 = [] ∧ o1 = [] ∧ flatI D1 = ri ∧ flatO D1 = ro
  yes : t = true → r2 = [] ∧ o2 = [] ∧ flatI (D1 ++ D2) = ri ∧ flatO (D1 ++ D2) = ro
theorem end_f {n clock : Int} {t : Bool} {l : List O33} {i : Nat} {s : St} {tI tO ri ro : RowsL} (h : LoopP n t l i clock s tI tO ri ro) (htot : ri.length ≤ 2097152 ∧ ro.length ≤ 2097152) (hn : 1 ≤ n ∧ n ≤ 65536) :
    ∃ s1 r1 o1 D1 m1 s2 r2 o2 D2 m2, EndF n t clock s ri ro s1 r1 o1 D1 m1 s2 r2 o2 D2 m2 := by
  have hI := h.I
  have hc0 := h.c0
  have hc1 := h.c1
  have hclk := h.clk
  have hnm : ¬ manyP s.n s.t s.clock clock := fun hh => by have := hh.2.2.1; omega
  have hfew := few hI hnm (by omega)
  have hf : Fits s ri ro clock [] [] [] := ⟨hI.g, h.si, h.so, Sm.nil, Sm.nil, Sm.nil, hI.ev, by simpa using htot.1, by simpa using htot.2, by
    rw [nw_eq (by omega) (by omega), mn_late (by omega)]
    exact hfew⟩
  obtain ⟨a1, a2, _⟩ := feed_all h.hk ri ro 65536 [] [] [] (now := clock) (by omega) (by omega)
  obtain ⟨q1, q2, q3, q4, q5⟩ := feed_inv hI ri ro 65536 [] [] [] (now := clock) (by omega) (by omega) hfew
  obtain ⟨p1, p2, _, _⟩ := feed_rows (s := s) ri ro clock 65536 [] [] [] hf.i hf.o hf.x hf.y hf.zi hf.zo
  have hl := feed_len s ri ro clock 65536 [] [] []
  have hlast : t = false → _ := fun ht => feed_last hI h.hk (h.ht.trans ht) ri ro [] (by rw [h.hn]; omega) (by omega)
  rw [hclk] at hlast
  obtain ⟨⟨s1, r1, o1, D1⟩, e1⟩ : ∃ R, feed s ri ro clock 65536 [] [] [] = R := ⟨_, rfl⟩
  rw [e1] at a1 a2 q1 q2 q3 q4 q5 p1 p2 hl hlast
  simp only at a1 a2 q1 q2 q3 q4 q5 p1 p2 hl hlast
  rw [List.append_nil] at a1 a2
  have hn1 : s1.n = n := q4.trans h.hn
  have hk1 : s1.k = 1 := q3.trans h.hk
  have ht1 : s1.t = t := q5.trans h.ht
  have b2 := adv_all hk1 r1 o1 [] (now := clock + n) (by omega) (by unfold late; omega)
  have hl2 := adv_len s1 r1 o1 (clock + n) []
  have hadv : t = true → _ := fun ht => adv_last q1 (ht1.trans ht) r1 o1 [] (by rw [q2, hn1]; unfold late; omega)
  rw [q2, hn1] at hadv
  obtain ⟨⟨s2, r2, o2, D2⟩, e2⟩ : ∃ R, adv s1 r1 o1 (clock + n) [] = R := ⟨_, rfl⟩
  rw [e2] at b2 hl2 hadv
  simp only at b2 hl2 hadv
  refine ⟨s1, r1, o1, D1, _, s2, r2, o2, D2, _, e1, rfl, e2, rfl, hf, q1.g, p1, p2, fun ht => ?_, by omega, fun ht => ?_, fun ht => ?_⟩
  · have hb := q1.tb ht
    rw [hn1, mn_le (by unfold late; omega)]
    omega
  · obtain ⟨h1, h2⟩ := hlast ht
    rw [h1, List.append_nil] at a1
    rw [h2, List.append_nil] at a2
    exact ⟨h1, h2, a1, a2⟩
  · obtain ⟨h1, h2⟩ := hadv ht
    rw [h1, List.append_nil, h2, List.append_nil] at b2
    refine ⟨h1, h2, ?_, ?_⟩
    · rw [flatI_app, b2.1, a1]
    · rw [flatO_app, b2.2.1, a2]
theorem sm_flat {l : List O33} (htot : tot l ≤ 1048576) (hsm : ∀ o ∈ l, Sm o.2.2.2.1.f0 ∧ Sm o.2.2.2.1.f1 ∧ Sm o.2.2.2.2) : Sm (fI l) ∧ Sm (fO l) := by
  have h := f_len l
  refine ⟨⟨by omega, fun x hx => ?_⟩, ⟨by omega, fun x hx => ?_⟩⟩
  · unfold fI at hx
    obtain ⟨r, hr, hx⟩ := List.mem_flatten.1 hx
    obtain ⟨o, ho, rfl⟩ := List.mem_map.1 hr
    exact (hsm o ho).1.2 x hx
  · unfold fO at hx
    obtain ⟨r, hr, hx⟩ := List.mem_flatten.1 hx
    obtain ⟨o, ho, rfl⟩ := List.mem_map.1 hr
    exact (hsm o ho).2.1.2 x hx
theorem wr3 {a b c d : Nat} (h1 : a ≤ 1048576) (h2 : b ≤ 1048576) (h3 : c ≤ a) (h4 : d ≤ b) : IntKind.i64.wrap (IntKind.i64.wrap (IntKind.i64.wrap ((a : Int) + b) - c) - d) = (a : Int) + b - c - d := by
  have e1 : IntKind.i64.wrap ((a : Int) + b) = (a : Int) + b := IntWalk.i64_in _ (by omega)
  have e2 : IntKind.i64.wrap ((a : Int) + b - c) = (a : Int) + b - c := IntWalk.i64_in _ (by omega)
  rw [e1, e2]
  exact IntWalk.i64_in _ (by omega)
end Go.Proofs.Yteklabhmmfklbaa
namespace Go.Proofs.Yteklabhmmfklbaa
open Go.RowKit Go
set_option linter.unusedVariables false
/-! ### A region whose loads are taken first although it stores into their cells at its end: what they read stands till operation p (the first store) is carried out -/
section
variable {P : Program} {ops : Array Oper} {Q : Exit → Act → World → Prop} {md : Region.Mode} {S T S2 : World → Prop} {p : Nat}
/-- Whatever order is picked: T holds behind every operation, and S as long as p has not come up. -/
def wpAnyG (P : Program) (md : Region.Mode) (ops : Array Oper) (Q : Exit → Act → World → Prop) (T S : World → Prop) (p : Nat) : Nat → Array Bool → Act → World → Prop
  | 0, listed, a, w => Region.ready md ops listed = [] ∧ Q .normal a w
  | fuel + 1, listed, a, w =>
    (Region.ready md ops listed = [] → Q .normal a w) ∧
    ∀ i ∈ Region.ready md ops listed, wpOp P ops Q i (fun a' w' => T w' ∧ ((listed.setIfInBounds i true).getD p true = false → S w') ∧ wpAnyG P md ops Q T S p fuel (listed.setIfInBounds i true) a' w') a w
theorem wpAny_of_G : ∀ (fuel : Nat) (listed : Array Bool) (a : Act) (w : World), wpAnyG P md ops Q T S p fuel listed a w → wpAny P md ops Q fuel listed a w
  | 0, _, _, _, h => h
  | fuel + 1, _, _, _, h => ⟨h.1, fun i hi => wpOp_mono (fun a' w' h' => wpAny_of_G fuel _ a' w' h'.2.2) (h.2 i hi)⟩
/-- p waits for i. -/
def Waits (md : Region.Mode) (ops : Array Oper) (p i : Nat) : Prop := ∀ listed, p ∈ Region.ready md ops listed → listed.getD i true = true
theorem waits_of {i : Nat} {o : Oper} (ho : ops[p]? = some o) (h : (o.after.any fun e => Region.binds md e && e.on == i) = true) : Waits md ops p i := by
  intro listed hp
  obtain ⟨e, he, hb⟩ := Array.any_eq_true'.1 h
  obtain ⟨_, o', ho', hall⟩ := mem_ready.1 hp
  rw [ho] at ho'
  obtain rfl := Option.some.inj ho'
  rw [Bool.and_eq_true, beq_iff_eq] at hb
  have := hall e he hb.1
  rw [hb.2] at this
  rcases Nat.lt_or_ge i listed.size with h' | h'
  · simpa [h'] using this
  · simp [Array.getElem?_eq_none h'] at this ⊢
theorem wpAnyG_first {i : Nat} {oi : Oper} {v : Value} (hi : ops[i]? = some oi) (hsel : ∀ (j : Nat) (o : Oper) cs b, ops[j]? = some o → o.op ≠ .select cs b)
    (hQ : ∀ c a w, Q (.panic c) (a.put oi.dst v) w → Q (.panic c) a w) (hip : i ≠ p) :
    ∀ (fuel : Nat) (listed : Array Bool) (a : Act) (w : World), ((∀ w, T w → S2 w) ∨ ((∀ w, T w → S w → S2 w) ∧ Waits md ops p i ∧ listed.getD p true = false)) →
      (∀ j oj, ops[j]? = some oj → j ≠ i → listed.getD j true = false → (∀ e ∈ oj.after, Region.binds md e = true → e.on ≠ i) → oi.apart ops oj = true) →
      i ∈ Region.ready md ops listed → YieldsIf P ops S2 oi v a → S2 w → T w → (listed.getD p true = false → S w) →
      wpAnyG P md ops Q T S p fuel (listed.setIfInBounds i true) (a.put oi.dst v) w → wpAnyG P md ops Q T S p (fuel + 1) listed a w := by
  intro fuel
  induction fuel with
  | zero =>
    intro listed a w hG _ hr hy hS hT hSp H
    refine ⟨fun h => (by rw [h] at hr; cases hr), fun j hj => ?_⟩
    by_cases hji : j = i
    · subst hji
      refine hy.wpOp hi hS ⟨hT, fun hp => hSp ?_, H⟩
      by_cases hjp : j = p
      · subst hjp; exact (mem_ready.1 hj).1
      · rwa [getD_set_ne true hjp] at hp
    · have := ready_mono hj hji
      rw [H.1] at this
      cases this
  | succ fuel ih =>
    intro listed a w hG hfree hr hy hS hT hSp H
    refine ⟨fun h => (by rw [h] at hr; cases hr), fun j hj => ?_⟩
    by_cases hji : j = i
    · subst hji
      refine hy.wpOp hi hS ⟨hT, fun hp => hSp ?_, H⟩
      by_cases hjp : j = p
      · subst hjp; exact (mem_ready.1 hj).1
      · rwa [getD_set_ne true hjp] at hp
    · have h1 := H.2 j (ready_mono hj hji)
      obtain ⟨hjun, oj, hoj, hall⟩ := mem_ready.1 hj
      have hiun := (mem_ready.1 hr).1
      have hnot : ∀ e ∈ oj.after, Region.binds md e = true → e.on ≠ i := fun e he hb heq => by
        have h1 := hall e he hb
        rw [heq] at h1
        rcases Nat.lt_or_ge i listed.size with h' | h'
        · simp [h'] at hiun h1; rw [hiun] at h1; cases h1
        · simp [Array.getElem?_eq_none h'] at h1
      have h2 := wpOp_putIf hoj (hfree j oj hoj hji hjun hnot) (fun cs b => hsel i oi cs b hi) (fun cs b => hsel j oj cs b hoj) hQ hy h1
      have hfree' : ∀ k ok, ops[k]? = some ok → k ≠ i → (listed.setIfInBounds j true).getD k true = false →
          (∀ e ∈ ok.after, Region.binds md e = true → e.on ≠ i) → oi.apart ops ok = true := fun k ok hk hki hun hno => by
        refine hfree k ok hk hki ?_ hno
        by_cases hjk : j = k
        · subst hjk; exact hjun
        · rw [getD_set_ne true hjk] at hun; exact hun
      refine wpOp_mono (fun a' w' h3 => ?_) h2
      obtain ⟨hy', hT', hS', hrest⟩ := h3
      have hSp' : (listed.setIfInBounds j true).getD p true = false → S w' := fun hp => by
        refine hS' ?_
        rw [Array.setIfInBounds_comm _ _ (Ne.symm hji), getD_set_ne true hip]; exact hp
      have hG' : (∀ w, T w → S2 w) ∨ ((∀ w, T w → S w → S2 w) ∧ Waits md ops p i ∧ (listed.setIfInBounds j true).getD p true = false) := by
        rcases hG with hG | ⟨hG, hW, hl⟩
        · exact .inl hG
        · have hjp : j ≠ p := fun e => by subst e; have := hW _ hj; rw [hiun] at this; cases this
          exact .inr ⟨hG, hW, by rw [getD_set_ne true hjp]; exact hl⟩
      have hS2' : S2 w' := by
        rcases hG' with hG | ⟨hG, _, hl⟩
        · exact hG w' hT'
        · exact hG w' hT' (hSp' hl)
      refine ⟨hT', hSp', ih (listed.setIfInBounds j true) a' w' hG' hfree' (ready_mono hr (Ne.symm hji)) hy' hS2' hT' hSp' ?_⟩
      rw [Array.setIfInBounds_comm _ _ hji]
      exact hrest
/-- Take number i first: it yields v in every world that meets S, and p waits for it. -/
theorem wpAnyG_take {i : Nat} {oi op : Oper} {v : Value} {fuel : Nat} {listed : Array Bool} {a : Act} {w : World} (hi : ops[i]? = some oi) (hp : ops[p]? = some op)
    (hs : Region.noSelect ops = true) (hf : Region.free md ops listed i = true) (hr : (Region.ready md ops listed).contains i = true) (hip : (i == p) = false) (hw : (op.after.any fun e => Region.binds md e && e.on == i) = true) (hl : (listed.getD p true) = false)
    (hQ : ∀ c a w, Q (.panic c) (a.put oi.dst v) w → Q (.panic c) a w) (hy : YieldsIf P ops (fun w => T w ∧ S w) oi v a) (hT : T w) (hS : S w)
    (h : wpAnyG P md ops Q T S p fuel (listed.setIfInBounds i true) (a.put oi.dst v) w) : wpAnyG P md ops Q T S p (fuel + 1) listed a w :=
  wpAnyG_first hi (Region.noSelect_spec hs) hQ (by simpa using hip) fuel listed a w (.inr ⟨fun _ h h' => ⟨h, h'⟩, waits_of hp hw, hl⟩) (Region.free_spec hi hf) (by simpa using hr) hy ⟨hT, hS⟩ hT (fun _ => hS) h
/-- .. in every world that meets T. -/
theorem wpAnyG_takeW {i : Nat} {oi : Oper} {v : Value} {fuel : Nat} {listed : Array Bool} {a : Act} {w : World} (hi : ops[i]? = some oi)
    (hs : Region.noSelect ops = true) (hf : Region.free md ops listed i = true) (hr : (Region.ready md ops listed).contains i = true) (hip : (i == p) = false)
    (hQ : ∀ c a w, Q (.panic c) (a.put oi.dst v) w → Q (.panic c) a w) (hy : YieldsIf P ops T oi v a) (hT : T w) (hS : listed.getD p true = false → S w)
    (h : wpAnyG P md ops Q T S p fuel (listed.setIfInBounds i true) (a.put oi.dst v) w) : wpAnyG P md ops Q T S p (fuel + 1) listed a w :=
  wpAnyG_first hi (Region.noSelect_spec hs) hQ (by simpa using hip) fuel listed a w (.inl fun _ h => h) (Region.free_spec hi hf) (by simpa using hr) hy hT hT hS h
/-- One alone comes up. -/
theorem wpAnyG_one {i : Nat} {o : Oper} {fuel : Nat} {listed : Array Bool} {a : Act} {w : World} (hr : Region.ready md ops listed = [i]) (ho : ops[i]? = some o)
    (h : ∀ K' : Act → World → Prop, Shut (∀ a w, T w → ((listed.setIfInBounds i true).getD p true = false → S w) → wpAnyG P md ops Q T S p fuel (listed.setIfInBounds i true) a w → K' a w) → if Region.wanted o (yielded ops a.tmps) = true then Oper.wp P o a w K' Q else K' (a.put o.dst undef) w) :
    wpAnyG P md ops Q T S p (fuel + 1) listed a w := by
  refine ⟨fun h0 => (by rw [hr] at h0; cases h0), fun j hj => ?_⟩
  rw [hr, List.mem_singleton] at hj
  subst hj
  exact wpOp_step ho (fun K' hK => h K' (fun a w hT hS hW => hK a w ⟨hT, hS, hW⟩))
theorem wpAnyG_done {listed : Array Bool} {a : Act} {w : World} (hr : Region.ready md ops listed = []) (h : Q .normal a w) : ∀ fuel, wpAnyG P md ops Q T S p fuel listed a w
  | 0 => ⟨hr, h⟩
  | _ + 1 => ⟨fun _ => h, by rw [hr]; simp⟩
theorem wp_region_G (T S : World → Prop) (p : Nat) {id : Nat} {a : Act} {w : World} (hm : P.follows .mixedOrders = true) (h : wpAnyG P .any ops Q T S p ops.size (Array.replicate ops.size false) a w.drew) : (Code.region id ops true).wp P Q a w :=
  wp_region_any hm (wpAny_of_G _ _ _ _ h)
end
end Go.Proofs.Yteklabhmmfklbaa
namespace Go.Proofs.Yteklabhmmfklbaa
open Go.RowKit Print Go.Proofs.YteklabhmmfklbaaW.PrintWords Go.Proofs.YteklabhmmfklbaaW.PrintLast Go.Proofs.YteklabhmmfklbaaW.PrintMore
attribute [local go_sem] max2_int min2_int max_two min_two
set_option linter.unusedVariables false
set_option linter.unusedSimpArgs false
theorem check1 {n : Int} {t : Bool} (h : 1 ≤ n ∧ n ≤ 65536) : rate_Check.f 4 1 n t = some 0 := by
  obtain ⟨h1, h2⟩ := h
  have h3 : n ≤ 1099511627776 := by omega
  cases t <;> simp [rate_Check.f, j0_form, j1_form, h1, h2, h3]
structure LoopL (w0 : World) (gR gT gF : Nat) (n : Int) (t : Bool) (l : List O33) (i : Nat) (clock : Int) (s : St) (tI tO ri ro : RowsL) (v : Value) (ds : List S43) (wr : World) : Prop where
  S : Apart wr [Rt gR s ri ro, Told gT tI tO v ds, Fed w0 gF (fI (l.take i)) (fO (l.take i))]
  p : LoopP n t l i clock s tI tO ri ro
theorem LoopL.below {w0 wr wx : World} {gR gT gF : Nat} {n : Int} {t : Bool} {l : List O33} {i : Nat} {clock : Int} {s : St} {tI tO ri ro : RowsL} {v : Value} {ds : List S43} (h : LoopL w0 gR gT gF n t l i clock s tI tO ri ro v ds wr) (hb : Below wr.heap.size wr wx) : LoopL w0 gR gT gF n t l i clock s tI tO ri ro v ds wx := ⟨h.S.onto hb, h.p⟩
theorem LoopL.old {w0 wr : World} {gR gT gF : Nat} {n : Int} {t : Bool} {l : List O33} {i : Nat} {clock : Int} {s : St} {tI tO ri ro : RowsL} {v : Value} {ds : List S43} (h : LoopL w0 gR gT gF n t l i clock s tI tO ri ro v ds wr) : Below w0.heap.size w0 wr := Sep.fed (h.S.pick 2)
theorem Stp.put2 {g : Nat} {bI bO vI vO : Value} {lI lO : RowsL} {E F0 : Nat → Prop} {w W0 : World} (h : Stp W0 F0 g bI bO vI vO lI lO E w) : Stp W0 F0 g vI vO vI vO lI lO E ((w.setCell ⟨g, 0, none⟩ vI).setCell ⟨g, 1, none⟩ vO) := (h.set_i vI).set_o vO
theorem flat_le (ds : List S43) (i : Nat) (h : i < ds.length) : (flatI (ds.take i)).length + (ds[i]).f1.f0.length ≤ (flatI ds).length ∧ (flatO (ds.take i)).length + (ds[i]).f1.f1.length ≤ (flatO ds).length := by
  have e1 : flatI ds = flatI (ds.take (i + 1)) ++ flatI (ds.drop (i + 1)) := by rw [← flatI_app, List.take_append_drop]
  have e2 : flatO ds = flatO (ds.take (i + 1)) ++ flatO (ds.drop (i + 1)) := by rw [← flatO_app, List.take_append_drop]
  rw [e1, e2, List.take_succ_eq_append_getElem h, flatI_app, flatO_app]
  simp only [List.length_append, flatI, flatO, List.map_cons, List.map_nil, List.flatten_cons, List.flatten_nil, List.append_nil]
  omega
theorem told_small {n : Int} {t : Bool} {l : List O33} {i c1 : Int} {s : St} {tI tO ri ro : RowsL} {ds : List S43} {md : Nat} (h : LoopP n t l (i + 1).toNat c1 s (tI ++ flatI ds) (tO ++ flatO ds) ri ro ∧ ∀ x ∈ ds, x.f0 ≤ c1) (htot : tot l ≤ 1048576) (hm : ds.length = md) :
    ∀ k : Int, 0 ≤ k → k < md → (tI ++ flatI (ds.take k.toNat)).length + (rd_T43 ds k).f1.f0.length ≤ 4194304 ∧ (tO ++ flatO (ds.take k.toNat)).length + (rd_T43 ds k).f1.f1.length ≤ 4194304 := by
  intro k k0 k1
  have h1 := h.1.lens htot
  have hx : rd_T43 ds k = ds[k.toNat]'(by omega) := by unfold rd_T43; exact getD_get _ _ _ (by omega)
  have h2 := flat_le ds k.toNat (by omega)
  rw [hx]
  simp only [List.length_append] at h1 ⊢
  omega
/-- Behind the first statement. -/
def csnd : Code → Code
  | .seq _ b => b
  | c => c
/-- It ends as it should. -/
theorem wp_N {P : Program} {s : Code} {Q : Exit → Act → World → Prop} {a : Act} {w : World} (h : s.wp P (Exit.then (fun a w => Q .normal a w) (fun _ _ _ => False)) a w) : s.wp P Q a w := by
  refine wp_mono h (fun e a w h => ?_)
  cases e <;> first | exact h | exact (h : False).elim
def cfst : Code → Code
  | .seq a _ => a
  | c => c
def cblk : Code → Code
  | .block _ c => c
  | c => c
def cloop : Code → Code
  | .loop c => c
  | c => c
/-- What stands in the loop behind the row that was fed. -/
noncomputable def innerC : Code := csnd (csnd (csnd (cblk (cfst (csnd (cloop (cblk (csnd (cfst (csnd (csnd (csnd (csnd (csnd (csnd (Try.f4.body.getD .skip))))))))))))))))
/-- What follows the loop. -/
noncomputable def tailC : Code := csnd (csnd (csnd (csnd (csnd (csnd (csnd (Try.f4.body.getD .skip)))))))
end Go.Proofs.Yteklabhmmfklbaa
