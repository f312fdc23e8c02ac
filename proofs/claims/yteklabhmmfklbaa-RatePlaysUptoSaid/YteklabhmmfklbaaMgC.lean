import Derived.Test.YteklabhmmfklbaaMgS
import Derived.Test.YteklabhmmfklbaaSplit
namespace Go.Proofs.Yteklabhmmfklbaa
open Go.RowKit Print Go.Proofs.YteklabhmmfklbaaW.PrintWords Go.Proofs.YteklabhmmfklbaaW.PrintLast Go.Proofs.YteklabhmmfklbaaW.PrintMore
set_option linter.unusedVariables false
def okS (k n : Int) (t : Bool) : Prop := (k = 0 ∧ n = 0 ∧ t = false) ∨ ((k = 1 ∨ k = 2 ∨ k = 3 ∨ k = 4) ∧ 1 ≤ n ∧ n ≤ 1099511627776)
theorem j1_form (m : Nat) (x3 : Int) (x6 : Bool) (k n : Int) (t : Bool) : rate_Check.j1 (m + 1) x3 x6 k n t = if x6 = true then (some 0) else (if k ≥ 1 then (if k ≤ 4 then (if n ≥ 1 then (if n ≤ x3 then (some 0) else (some 1)) else (some 1)) else (some 1)) else (some 1)) := by unfold rate_Check.j1; rfl
theorem j0_form (m : Nat) (x3 : Int) (k n : Int) (t : Bool) : rate_Check.j0 (m + 1) x3 k n t = if k = 0 then (if n = 0 then (rate_Check.j1 m x3 (!t) k n t) else (rate_Check.j1 m x3 false k n t)) else (rate_Check.j1 m x3 false k n t) := by unfold rate_Check.j0; rfl
theorem j1_res (m : Nat) (x3 : Int) (k n : Int) (t : Bool) (h3 : x3 ≤ 1099511627776) : (rate_Check.j1 (m + 1) x3 false k n t = some 0 ∧ okS k n t) ∨ rate_Check.j1 (m + 1) x3 false k n t = some 1 := by
  rw [j1_form, if_neg (by decide)]
  by_cases h1 : k ≥ 1
  · rw [if_pos h1]
    by_cases h2 : k ≤ 4
    · rw [if_pos h2]
      by_cases h4 : n ≥ 1
      · rw [if_pos h4]
        by_cases h5 : n ≤ x3
        · rw [if_pos h5]; exact .inl ⟨rfl, .inr ⟨by omega, by omega, by omega⟩⟩
        · rw [if_neg h5]; exact .inr rfl
      · rw [if_neg h4]; exact .inr rfl
    · rw [if_neg h2]; exact .inr rfl
  · rw [if_neg h1]; exact .inr rfl
theorem j0_res (m : Nat) (x3 : Int) (k n : Int) (t : Bool) (h3 : x3 ≤ 1099511627776) : (rate_Check.j0 (m + 2) x3 k n t = some 0 ∧ okS k n t) ∨ rate_Check.j0 (m + 2) x3 k n t = some 1 := by
  rw [j0_form]
  by_cases k0 : k = 0
  · rw [if_pos k0]
    by_cases n0 : n = 0
    · rw [if_pos n0]
      cases t
      · rw [j1_form]
        exact .inl ⟨rfl, .inl ⟨k0, n0, rfl⟩⟩
      · exact j1_res m x3 k n true h3
    · rw [if_neg n0]; exact j1_res m x3 k n t h3
  · rw [if_neg k0]; exact j1_res m x3 k n t h3
theorem check_form (k n : Int) (t : Bool) : (rate_Check.f 4 k n t = some 0 ∧ okS k n t) ∨ rate_Check.f 4 k n t = some 1 := by
  unfold rate_Check.f
  cases t
  · rw [if_neg (by decide)]; exact j0_res 2 65536 k n false (by decide)
  · rw [if_pos rfl]; exact j0_res 2 1099511627776 k n true (by decide)
theorem check_yes {k n : Int} {t : Bool} (h : rate_Check.f 4 k n t = some 0) : okS k n t := by
  rcases check_form k n t with h2 | h2
  · exact h2.2
  · rw [h] at h2; cases h2
end Go.Proofs.Yteklabhmmfklbaa
namespace Go.Proofs.Yteklabhmmfklbaa
open Go.RowKit Print Go.Proofs.YteklabhmmfklbaaW.PrintWords Go.Proofs.YteklabhmmfklbaaW.PrintLast Go.Proofs.YteklabhmmfklbaaW.PrintMore
set_option linter.unusedVariables false
/-- What a rate is always like behind New, Feed and Advance. -/
structure Inv (s : St) : Prop where
  g : Good s
  ev : 0 ≤ s.events ∧ s.events ≤ late
  tb : s.t = true → s.clock < s.border
theorem Inv.of {s s' : St} (h : Inv s) (hk : s'.k = s.k) (hn : s'.n = s.n) (ht : s'.t = s.t) (hc : s'.clock = s.clock) (hb : s'.border = s.border) (he : 0 ≤ s'.events ∧ s'.events ≤ late) : Inv s' := by
  obtain ⟨⟨k0, t0, c0, cl, n1, n2, b0, b1⟩, ev, tb⟩ := h
  obtain ⟨k, n, t, clock, border, events, told⟩ := s
  obtain ⟨k', n', t', clock', border', events', told'⟩ := s'
  simp only at *
  subst hk hn ht hc hb
  exact ⟨⟨k0, t0, c0, cl, n1, n2, b0, b1⟩, he, tb⟩
theorem adv_inv {s : St} (h : Inv s) (ri ro : RowsL) {now : Int} (all : RowsL) (hc : s.clock ≤ now) (hl : now ≤ 1125899906842624) (hm : s.t = true → now + 1 - s.border ≤ 4002 * s.n) :
    Inv (adv s ri ro now all).1 ∧ (adv s ri ro now all).1.clock = now := by
  have e := mn_late hl
  have hL : now ≤ late := by unfold late; omega
  have hc0 := h.g.c0
  have hkp := adv_keeps s ri ro now all
  cases ht : s.t
  · have h1 : adv s ri ro now all = ({ s with clock := now }, ri, ro, []) := by unfold adv; rw [if_neg (by omega), if_neg (by rw [ht]; decide), e]
    rw [h1]
    exact ⟨⟨⟨h.g.k0, h.g.t0, by show 0 ≤ now; omega, hL, h.g.n1, h.g.n2, fun hh => absurd hh (by show ¬ s.t = true; rw [ht]; decide), fun hh => absurd hh (by show ¬ s.t = true; rw [ht]; decide)⟩, h.ev, fun hh => absurd hh (by show ¬ s.t = true; rw [ht]; decide)⟩, rfl⟩
  · have h1 : adv s ri ro now all = advL FU { s with clock := now } ri ro all [] := by unfold adv; rw [if_neg (by omega), if_pos ht, e]
    have hn := h.g.n1 ht
    have b1 := h.g.b1 ht
    have b0 := h.g.b0 ht
    have hb := advL_border FU { s with clock := now } ri ro all [] hn (hm ht) (by show s.border ≤ now + s.n; omega)
    have hk := advL_keeps FU { s with clock := now } ri ro all []
    rw [← h1] at hb hk
    obtain ⟨R, hR⟩ : ∃ R, adv s ri ro now all = R := ⟨_, rfl⟩
    rw [hR] at hb hk ⊢
    obtain ⟨q1, q2, q3, q4, q5⟩ := hk
    simp only at q1 q2 q3 q4 q5 hb
    refine ⟨⟨⟨by rw [q1]; exact h.g.k0, fun _ => by rw [q1]; exact h.g.t0 ht, by rw [q5]; omega, by rw [q5]; exact hL, fun _ => by rw [q2]; exact hn, by rw [q2]; exact h.g.n2, fun _ => by omega, fun _ => by rw [q5, q2]; exact hb.2.1⟩, by rw [q4]; exact h.ev, fun _ => by rw [q5]; exact hb.1⟩, q5⟩
theorem ev_bound {a b : Int} (h : 0 ≤ a ∧ a ≤ late) : 0 ≤ mn (a + mn (mx b 0) late) late ∧ mn (a + mn (mx b 0) late) late ≤ late := by
  unfold mn mx late at *
  repeat' split
  all_goals omega
theorem feedG_state (R : St × RowsL × RowsL × List S43) (nw : Int) (xs ys : RowsL) : (feedG R nw xs ys).1.k = R.1.k ∧ (feedG R nw xs ys).1.n = R.1.n ∧ (feedG R nw xs ys).1.t = R.1.t ∧ (feedG R nw xs ys).1.clock = R.1.clock ∧ (feedG R nw xs ys).1.border = R.1.border ∧ (feedG R nw xs ys).1.events = R.1.events := by
  unfold feedG
  repeat' split
  all_goals exact ⟨rfl, rfl, rfl, rfl, rfl, rfl⟩
theorem feedE_inv {R : St × RowsL × RowsL × List S43} (h : Inv R.1) (nw ev : Int) (all : RowsL) : Inv (feedE R nw ev all).1 ∧ (feedE R nw ev all).1.clock = R.1.clock ∧ (feedE R nw ev all).1.k = R.1.k ∧ (feedE R nw ev all).1.n = R.1.n ∧ (feedE R nw ev all).1.t = R.1.t := by
  unfold feedE
  split
  · exact ⟨h, rfl, rfl, rfl, rfl⟩
  · split
    · exact ⟨h.of rfl rfl rfl rfl rfl ⟨Int.le_refl _, by show (0 : Int) ≤ late; unfold late; omega⟩, rfl, rfl, rfl, rfl⟩
    · exact ⟨h.of rfl rfl rfl rfl rfl (ev_bound h.ev), rfl, rfl, rfl, rfl⟩
theorem nw_eq {s : St} {now : Int} (hc : s.clock ≤ now) (hl : now ≤ 1125899906842624) : mn (mx now s.clock) late = now := by
  have : mx now s.clock = now := by unfold mx; rw [if_neg (by omega)]
  rw [this]; exact mn_late hl
theorem feed_inv {s : St} (h : Inv s) (ri ro : RowsL) {now : Int} (ev : Int) (xs ys all : RowsL) (hc : s.clock ≤ now) (hl : now ≤ 1125899906842624) (hm : s.t = true → now + 1 - s.border ≤ 4002 * s.n) :
    Inv (feed s ri ro now ev xs ys all).1 ∧ (feed s ri ro now ev xs ys all).1.clock = now ∧ (feed s ri ro now ev xs ys all).1.k = s.k ∧ (feed s ri ro now ev xs ys all).1.n = s.n ∧ (feed s ri ro now ev xs ys all).1.t = s.t := by
  unfold feed
  rw [nw_eq hc hl]
  obtain ⟨hA, hclk⟩ := adv_inv h ri ro all hc hl hm
  have hk := adv_keeps s ri ro now all
  obtain ⟨R, hR⟩ : ∃ R, adv s ri ro now all = R := ⟨_, rfl⟩
  rw [hR] at hA hclk hk ⊢
  unfold feedR
  split
  · exact ⟨hA, hclk, hk.1, hk.2.1, hk.2.2.1⟩
  · obtain ⟨q1, q2, q3, q4, q5, q6⟩ := feedG_state R now xs ys
    have := feedE_inv (R := feedG R now xs ys) (hA.of q1 q2 q3 q4 q5 (by rw [q6]; exact hA.ev)) now ev all
    exact ⟨this.1, by rw [this.2.1, q4, hclk], by rw [this.2.2.1, q1, hk.1], by rw [this.2.2.2.1, q2, hk.2.1], by rw [this.2.2.2.2, q3, hk.2.2.1]⟩
theorem gatD_len (k : Int) (a b : RowsL) : (gatD k a b).length ≤ a.length + b.length := by
  unfold gatD
  split
  · rw [List.length_append]; exact Nat.le_refl _
  · split
    · split
      · omega
      · unfold lastOf; simp; omega
    · omega
theorem feed_rows {s : St} (ri ro : RowsL) (now ev : Int) (xs ys all : RowsL) (h1 : Sm ri) (h2 : Sm ro) (hx : Sm xs) (hy : Sm ys) (hi : ri.length + xs.length ≤ 2097152) (ho : ro.length + ys.length ≤ 2097152) :
    Sm (feed s ri ro now ev xs ys all).2.1 ∧ Sm (feed s ri ro now ev xs ys all).2.2.1 ∧ (feed s ri ro now ev xs ys all).2.1.length ≤ ri.length + xs.length ∧ (feed s ri ro now ev xs ys all).2.2.1.length ≤ ro.length + ys.length := by
  unfold feed
  have q := adv_Sm (s := s) (mn (mx now s.clock) late) all h1 h2
  have q2 := adv_rows s ri ro (mn (mx now s.clock) late) all
  obtain ⟨R, hR⟩ : ∃ R, adv s ri ro (mn (mx now s.clock) late) all = R := ⟨_, rfl⟩
  rw [hR] at q q2 ⊢
  unfold feedR
  split
  · exact ⟨q.1, q.2, by simp only; omega, by simp only; omega⟩
  · have hg := feedG_Sm (nw := mn (mx now s.clock) late) q.1 q.2 hx hy (by omega) (by omega)
    have hl : (feedG R (mn (mx now s.clock) late) xs ys).2.1.length ≤ R.2.1.length + xs.length ∧ (feedG R (mn (mx now s.clock) late) xs ys).2.2.1.length ≤ R.2.2.1.length + ys.length := by
      unfold feedG
      split
      · split
        · exact ⟨by simp only; omega, by simp only; omega⟩
        · exact ⟨by omega, by omega⟩
      · exact ⟨gatD_len _ _ _, gatD_len _ _ _⟩
    obtain ⟨G, hG⟩ : ∃ G, feedG R (mn (mx now s.clock) late) xs ys = G := ⟨_, rfl⟩
    rw [hG] at hg hl ⊢
    unfold feedE
    split
    · exact ⟨hg.1, hg.2, by omega, by omega⟩
    · split
      · exact ⟨Sm.nil, Sm.nil, Nat.zero_le _, Nat.zero_le _⟩
      · exact ⟨hg.1, hg.2, by simp only; omega, by simp only; omega⟩
end Go.Proofs.Yteklabhmmfklbaa
