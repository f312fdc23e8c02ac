import Derived.Test.YteklabhmmfklbaaSplitL
import Derived.Test.YteklabhmmfklbaaMgC
namespace Go.Proofs.Yteklabhmmfklbaa
open Go.RowKit Print Go.Proofs.YteklabhmmfklbaaW.PrintWords Go.Proofs.YteklabhmmfklbaaW.PrintLast Go.Proofs.YteklabhmmfklbaaW.PrintMore
set_option linter.unusedVariables false
/-! ### RatePlays, the plain law: the document's Advance and Feed are the program's -/
/-- The borders up to the clock, as the document passes them. -/
def xadvL : Nat → St → RowsL → RowsL → RowsL → List S43 → St × RowsL × RowsL × List S43
  | 0, s, ri, ro, _, acc => (s, ri, ro, acc)
  | f + 1, s, ri, ro, all, acc =>
    if s.clock < s.border then (s, ri, ro, acc)
    else xadvL f { s with told := false, events := 0, border := if s.border + s.n ≤ s.clock ∧ (s.k ≠ 4 ∨ all.length = 0) then s.border + s.n + ((s.clock - (s.border + s.n)) / s.n + 1) * s.n else s.border + s.n } [] [] all (acc ++ endD s.k s.border ri ro all)
def xadv (s : St) (ri ro : RowsL) (now : Int) (all : RowsL) : St × RowsL × RowsL × List S43 :=
  if mn now late < s.clock then (s, ri, ro, [])
  else if s.t = true then xadvL FU { s with clock := mn now late } ri ro all []
  else ({ s with clock := mn now late }, ri, ro, [])
theorem jump_past {c b n : Int} (hn : 1 ≤ n) (hb : b ≤ c) : c < b + ((c - b) / n + 1) * n := by
  have h1 := Int.lt_ediv_add_one_mul_self (c - b) (show 0 < n by omega)
  omega
theorem nothing_tells {s : St} {ri ro all : RowsL} (h : nothing s ri ro all) (at_ : Int) : endD s.k at_ ri ro all = [] := by
  obtain ⟨h1, _, h3⟩ := h
  unfold endD
  split
  · first | rfl | rw [if_pos h1]
  · split
    · rename_i h4
      rcases h3 with h3 | h3
      · exact absurd h4 h3
      · rw [if_pos (List.eq_nil_of_length_eq_zero h3)]
    · rfl
theorem advL_x : ∀ (f : Nat) (s : St) (ri ro all : RowsL) (acc : List S43), s.clock + 1 - s.border ≤ f * s.n → 1 ≤ s.n → s.events = 0 → advL (f + 1) s ri ro all acc = xadvL (f + 1) s ri ro all acc
  | 0, s, ri, ro, all, acc, h, hn, he => by
    have hc : s.clock < s.border := by simp at h; omega
    simp only [advL, xadvL]
    rw [if_pos hc, if_pos hc]
  | f + 1, s, ri, ro, all, acc, h, hn, he => by
    by_cases hc : s.clock < s.border
    · rw [advL, xadvL, if_pos hc, if_pos hc]
    · have hb : s.border ≤ s.clock := by omega
      rw [advL, xadvL, if_neg hc, if_neg hc]
      by_cases hno : nothing s ri ro all
      · rw [if_pos hno, nothing_tells hno, List.append_nil]
        obtain ⟨h1, h2, h3⟩ := hno
        have e1 : ri = [] := List.eq_nil_of_length_eq_zero (by omega)
        have e2 : ro = [] := List.eq_nil_of_length_eq_zero (by omega)
        subst e1 e2
        have hbd : (if s.border + s.n ≤ s.clock ∧ (s.k ≠ 4 ∨ all.length = 0) then s.border + s.n + ((s.clock - (s.border + s.n)) / s.n + 1) * s.n else s.border + s.n) = s.border + ((s.clock - s.border) / s.n * s.n + s.n) ∧ s.clock < s.border + ((s.clock - s.border) / s.n * s.n + s.n) := by
          have hj := jump_past hn hb
          refine ⟨?_, by rw [Int.add_mul, Int.one_mul] at hj; exact hj⟩
          by_cases hq : s.border + s.n ≤ s.clock
          · rw [if_pos ⟨hq, h3⟩]
            have e : (s.clock - (s.border + s.n)) / s.n = (s.clock - s.border) / s.n - 1 := by
              rw [show s.clock - (s.border + s.n) = (s.clock - s.border) + (-1) * s.n by omega, Int.add_mul_ediv_right _ _ (by omega)]
              omega
            rw [e, show (s.clock - s.border) / s.n - 1 + 1 = (s.clock - s.border) / s.n by omega]
            omega
          · rw [if_neg (fun h => hq h.1), Int.ediv_eq_zero_of_lt (by omega) (by omega)]
            omega
        rw [hbd.1, xadvL, if_pos (show s.clock < _ from hbd.2)]
        obtain ⟨k, n, t, clock, border, events, told⟩ := s
        simp only at he h2
        subst he h2
        rfl
      · rw [if_neg hno]
        by_cases hk : s.k ≠ 4 ∨ all.length = 0
        · by_cases hq : s.border + s.n ≤ s.clock
          · rw [if_pos ⟨hq, hk⟩]
            have hj := jump_past hn hq
            rw [advL, if_neg (show ¬ s.clock < s.border + s.n by omega), if_pos (show nothing { s with told := false, border := s.border + s.n } [] [] all from ⟨rfl, rfl, hk⟩), xadvL, if_pos (show s.clock < _ from hj)]
            obtain ⟨k, n, t, clock, border, events, told⟩ := s
            simp only at he
            subst he
            simp only [Int.add_mul, Int.one_mul]
          · rw [if_neg (fun h => hq h.1), advL, if_pos (show s.clock < s.border + s.n by omega), xadvL, if_pos (show s.clock < s.border + s.n by omega)]
            obtain ⟨k, n, t, clock, border, events, told⟩ := s
            simp only at he
            subst he
            rfl
        · rw [if_neg (fun h => hk h.2)]
          have ih := advL_x f { s with told := false, border := s.border + s.n } [] [] all (acc ++ endD s.k s.border ri ro all) (by
            show s.clock + 1 - (s.border + s.n) ≤ f * s.n
            have e : ((f + 1 : Nat) : Int) * s.n = f * s.n + s.n := by rw [Int.natCast_add, Int.add_mul, Int.natCast_one, Int.one_mul]
            omega) hn he
          rw [ih]
          obtain ⟨k, n, t, clock, border, events, told⟩ := s
          simp only at he
          subst he
          rfl
theorem adv_x {s : St} {ri ro : RowsL} {now : Int} {all : RowsL} (hc : s.clock ≤ late) (hn : s.t = true → 1 ≤ s.n) (he : s.t = true → s.events = 0) (hm : s.t = true → mn now late + 1 - s.border ≤ 4001 * s.n) : adv s ri ro now all = xadv s ri ro now all := by
  unfold adv xadv
  have e : now < s.clock ↔ mn now late < s.clock := by unfold mn; omega
  by_cases h : now < s.clock
  · rw [if_pos h, if_pos (e.1 h)]
  · rw [if_neg h, if_neg (fun h' => h (e.2 h'))]
    by_cases ht : s.t = true
    · rw [if_pos ht, if_pos ht]
      exact advL_x 4001 { s with clock := mn now late } ri ro all [] (hm ht) (hn ht) (he ht)
    · rw [if_neg ht, if_neg ht]
/-- The last row, if there is one. -/
def xlast (l : RowsL) : RowsL := if l.length = 0 then [] else l.drop (l.length - 1)
def xgat (k : Int) (old new : RowsL) : RowsL := if k = 1 then old ++ new else if k = 3 then xlast (old ++ new) else old
theorem gat_x {k : Int} {old new : RowsL} (h : k = 3 → old.length ≤ 1) : gatD k old new = xgat k old new := by
  unfold gatD xgat
  split
  · rfl
  · split
    · rename_i h3
      have ho := h h3
      by_cases hn : new.length = 0
      · rw [if_pos hn, List.eq_nil_of_length_eq_zero hn, List.append_nil]
        unfold xlast
        by_cases h0 : old.length = 0
        · rw [if_pos h0]; exact List.eq_nil_of_length_eq_zero h0
        · rw [if_neg h0, show old.length - 1 = 0 by omega, List.drop_zero]
      · rw [if_neg hn]
        unfold xlast lastOf
        rw [if_neg (by rw [List.length_append]; omega), List.length_append, List.drop_append, (List.drop_eq_nil_of_le : old.length ≤ old.length + new.length - 1 → old.drop (old.length + new.length - 1) = []) (show old.length ≤ old.length + new.length - 1 by omega), List.nil_append]
        congr 1
        omega
    · rfl
def xfeedG (R : St × RowsL × RowsL × List S43) (nw : Int) (xs ys : RowsL) : St × RowsL × RowsL × List S43 :=
  if R.1.k = 2 then (if 0 < xs.length + ys.length ∧ R.1.told = false then ({ R.1 with told := true }, R.2.1, R.2.2.1, R.2.2.2 ++ [⟨nw, ⟨xs, ys⟩⟩]) else R)
  else (R.1, xgat R.1.k R.2.1 xs, xgat R.1.k R.2.2.1 ys, R.2.2.2)
def xfeedR (R : St × RowsL × RowsL × List S43) (nw ev : Int) (xs ys all : RowsL) : St × RowsL × RowsL × List S43 :=
  if R.1.k = 0 then (R.1, R.2.1, R.2.2.1, if 0 < xs.length + ys.length then R.2.2.2 ++ [⟨nw, ⟨xs, ys⟩⟩] else R.2.2.2)
  else feedE (xfeedG R nw xs ys) nw ev all
def xfeed (s : St) (ri ro : RowsL) (now ev : Int) (xs ys all : RowsL) : St × RowsL × RowsL × List S43 :=
  xfeedR (xadv s ri ro (mn (mx now s.clock) late) all) (mn (mx now s.clock) late) ev xs ys all
/-- What both rates are always like. -/
structure PI (s : St) (ri ro : RowsL) : Prop where
  inv : Inv s
  ev0 : s.t = true → s.events = 0
  r3 : s.k = 3 → ri.length ≤ 1 ∧ ro.length ≤ 1
theorem mn_lat {a : Int} (h : a ≤ late) : mn a late = a := by unfold mn; rw [if_neg (by omega)]
theorem mx_late {now clock : Int} (h : now ≤ late) (hc : clock ≤ late) : mn (mx now clock) late = mx now clock := mn_lat (by unfold mx; split <;> omega)
/-- Few borders. -/
theorem few4 {s : St} {now : Int} (h : Inv s) (hm : ¬ manyP s.n s.t s.clock now) : s.t = true → now + 1 - s.border ≤ 4001 * s.n := fun ht => by
  have hn := h.g.n1 ht
  have hb := h.tb ht
  by_cases hl : s.clock < now
  · have h2 : ¬ 2000 < (now - s.clock) / s.n := fun hh => hm ⟨ht, by omega, hl, hh⟩
    have h3 := (div_bounds (a := now - s.clock) hn).2
    have h4 : (now - s.clock) / s.n * s.n ≤ 2000 * s.n := Int.mul_le_mul_of_nonneg_right (by omega) (by omega)
    have e : (4001 : Int) * s.n = 2000 * s.n + 2001 * s.n := by rw [← Int.add_mul]; rfl
    omega
  · omega
theorem adv_inv2 {s : St} (h : Inv s) (ri ro : RowsL) {now : Int} (all : RowsL) (hc : s.clock ≤ now) (hl : now ≤ late) (hm : s.t = true → now + 1 - s.border ≤ 4001 * s.n) :
    Inv (adv s ri ro now all).1 := by
  have e := mn_lat hl
  have hc0 := h.g.c0
  have hm : s.t = true → now + 1 - s.border ≤ 4002 * s.n := fun ht => by have := hm ht; have := h.g.n1 ht; omega
  cases ht : s.t
  · have h1 : adv s ri ro now all = ({ s with clock := now }, ri, ro, []) := by unfold adv; rw [if_neg (by omega), if_neg (by rw [ht]; decide), e]
    rw [h1]
    exact ⟨⟨h.g.k0, h.g.t0, by show 0 ≤ now; omega, hl, h.g.n1, h.g.n2, fun hh => absurd hh (by show ¬ s.t = true; rw [ht]; decide), fun hh => absurd hh (by show ¬ s.t = true; rw [ht]; decide)⟩, h.ev, fun hh => absurd hh (by show ¬ s.t = true; rw [ht]; decide)⟩
  · have h1 : adv s ri ro now all = advL FU { s with clock := now } ri ro all [] := by unfold adv; rw [if_neg (by omega), if_pos ht, e]
    have hn := h.g.n1 ht
    have b1 := h.g.b1 ht
    have b0 := h.g.b0 ht
    have hb := advL_border FU { s with clock := now } ri ro all [] hn (hm ht) (by show s.border ≤ now + s.n; omega)
    have hk := advL_keeps FU { s with clock := now } ri ro all []
    rw [← h1] at hb hk
    obtain ⟨R, hR⟩ : ∃ R, adv s ri ro now all = R := ⟨_, rfl⟩
    rw [hR] at hb hk ⊢
    obtain ⟨q1, q2, q3, q4, q5⟩ := hk
    simp only at q1 q2 q3 q4 q5 hb
    exact ⟨⟨by rw [q1]; exact h.g.k0, fun _ => by rw [q1]; exact h.g.t0 ht, by rw [q5]; omega, by rw [q5]; exact hl, fun _ => by rw [q2]; exact hn, by rw [q2]; exact h.g.n2, fun _ => by omega, fun _ => by rw [q5, q2]; exact hb.2.1⟩, by rw [q4]; exact h.ev, fun _ => by rw [q5]; exact hb.1⟩
theorem adv_pi0 {s : St} {ri ro : RowsL} (h : PI s ri ro) {now : Int} (all : RowsL) (hl : now ≤ late) (hm : s.t = true → now + 1 - s.border ≤ 4001 * s.n) :
    PI (adv s ri ro now all).1 (adv s ri ro now all).2.1 (adv s ri ro now all).2.2.1 ∧ adv s ri ro now all = xadv s ri ro now all := by
  have hx : adv s ri ro now all = xadv s ri ro now all := adv_x h.inv.g.cl h.inv.g.n1 h.ev0 (by rw [mn_lat hl]; exact hm)
  refine ⟨?_, hx⟩
  by_cases hc : now < s.clock
  · have h1 : adv s ri ro now all = (s, ri, ro, []) := by unfold adv; rw [if_pos hc]
    rw [h1]; exact h
  · obtain ⟨k1, k2, k3, k4⟩ := adv_keeps s ri ro now all
    refine ⟨adv_inv2 h.inv ri ro all (by omega) hl hm, fun ht => by rw [k4]; exact h.ev0 (k3.symm.trans ht), fun hk => ?_⟩
    have hr := h.r3 (k1.symm.trans hk)
    have hr2 := adv_rows s ri ro now all
    exact ⟨by omega, by omega⟩
theorem adv_pi {s : St} {ri ro : RowsL} (h : PI s ri ro) {now : Int} (all : RowsL) (hl : now ≤ late) (hm : ¬ manyP s.n s.t s.clock now) :
    PI (adv s ri ro now all).1 (adv s ri ro now all).2.1 (adv s ri ro now all).2.2.1 ∧ adv s ri ro now all = xadv s ri ro now all := adv_pi0 h all hl (few4 h.inv hm)
theorem few_mx {s : St} {now : Int} (h : Inv s) (hm : ¬ manyP s.n s.t s.clock now) : s.t = true → mx now s.clock + 1 - s.border ≤ 4001 * s.n := fun ht => by
  have h1 := few4 h hm ht
  have hn := h.g.n1 ht
  have hb := h.tb ht
  unfold mx
  split <;> omega
theorem gatD_3 {old new : RowsL} (h : old.length ≤ 1) : (gatD 3 old new).length ≤ 1 := by
  unfold gatD
  rw [if_neg (by decide), if_pos rfl]
  split
  · exact h
  · unfold lastOf; rw [List.length_drop]; omega
theorem feed_pi {s : St} {ri ro : RowsL} (h : PI s ri ro) {now : Int} (ev : Int) (xs ys all : RowsL) (hl : now ≤ late) (hm : ¬ manyP s.n s.t s.clock now) :
    PI (feed s ri ro now ev xs ys all).1 (feed s ri ro now ev xs ys all).2.1 (feed s ri ro now ev xs ys all).2.2.1 ∧ feed s ri ro now ev xs ys all = xfeed s ri ro now ev xs ys all := by
  have e := mx_late hl h.inv.g.cl
  unfold feed xfeed
  rw [e]
  have hnl : mx now s.clock ≤ late := by have := h.inv.g.cl; unfold mx; split <;> omega
  obtain ⟨hA, hx⟩ := adv_pi0 h all hnl (few_mx h.inv hm)
  rw [← hx]
  obtain ⟨R, hR⟩ : ∃ R, adv s ri ro (mx now s.clock) all = R := ⟨_, rfl⟩
  rw [hR] at hA ⊢
  obtain ⟨nw, hnw⟩ : ∃ nw, mx now s.clock = nw := ⟨_, rfl⟩
  rw [hnw]
  have hG : feedG R nw xs ys = xfeedG R nw xs ys := by
    unfold feedG xfeedG
    split
    · rfl
    · rw [gat_x (fun hk => (hA.r3 hk).1), gat_x (fun hk => (hA.r3 hk).2)]
  have hGI : PI (feedG R nw xs ys).1 (feedG R nw xs ys).2.1 (feedG R nw xs ys).2.2.1 := by
    obtain ⟨q1, q2, q3, q4, q5, q6⟩ := feedG_state R nw xs ys
    refine ⟨hA.inv.of q1 q2 q3 q4 q5 (by rw [q6]; exact hA.inv.ev), fun ht => by rw [q6]; exact hA.ev0 (q3.symm.trans ht), fun hk => ?_⟩
    rw [q1] at hk
    have h3 := hA.r3 hk
    unfold feedG
    rw [if_neg (by omega)]
    simp only [hk]
    exact ⟨gatD_3 h3.1, gatD_3 h3.2⟩
  unfold feedR xfeedR
  split
  · exact ⟨⟨hA.inv, hA.ev0, hA.r3⟩, rfl⟩
  · rw [← hG]
    refine ⟨?_, rfl⟩
    obtain ⟨G, hGG⟩ : ∃ G, feedG R nw xs ys = G := ⟨_, rfl⟩
    rw [hGG] at hGI ⊢
    have hi := (feedE_inv hGI.inv nw ev all).1
    revert hi
    unfold feedE
    split
    · exact fun _ => hGI
    · rename_i ht
      split
      · exact fun hi => ⟨hi, fun h' => absurd h' ht, fun _ => ⟨Nat.zero_le _, Nat.zero_le _⟩⟩
      · exact fun hi => ⟨hi, fun h' => absurd h' ht, hGI.r3⟩
end Go.Proofs.Yteklabhmmfklbaa
namespace Go.Proofs.Yteklabhmmfklbaa
open Go.RowKit Print Go.Proofs.YteklabhmmfklbaaW.PrintWords Go.Proofs.YteklabhmmfklbaaW.PrintLast Go.Proofs.YteklabhmmfklbaaW.PrintMore
set_option linter.unusedVariables false
/-! ### The document's rate in memory: its rows are only read -/
section
variable {w w1 W : World} {ok ok' S : Nat → Prop} {v vi vo : Value} {l ri ro : RowsL} {g : Nat} {s : St}
/-- Rows that are read. -/
def Rd (w : World) (ok : Nat → Prop) (v : Value) (l : RowsL) : Prop := ∃ A c, v = .slice A l.length c ∧ l.length ≤ c ∧ Kd.F kR w ok A l.length l
theorem Rd.nil (w : World) (ok : Nat → Prop) : Rd w ok nilV [] := ⟨none, 0, rfl, Nat.le_refl _, Kd.F_nil _ _ _⟩
theorem Rd.kept (h : Rd w ok v l) (hk : K3 w w1 S) (hne : ∀ k, ok k → ¬ S k) : Rd w1 ok v l := by
  obtain ⟨A, c, h1, h2, h3⟩ := h
  exact ⟨A, c, h1, h2, K3.F h3 hk hne⟩
theorem Rd.below (h : Rd w ok v l) (hb : Below w.heap.size w w1) : Rd w1 ok v l := h.kept (K3.of_below hb (fun _ => False)) (fun _ _ h => h)
theorem Rd.mono (h : Rd w ok v l) (hok : ∀ k, ok k → ok' k) : Rd w ok' v l := by
  obtain ⟨A, c, h1, h2, h3⟩ := h
  exact ⟨A, c, h1, h2, Kd.F_mono h3 hok⟩
theorem Rd.bound (h : Rd w ok v l) : Rd w (fun k => ok k ∧ k < w.heap.size) v l := by
  obtain ⟨A, c, h1, h2, h3⟩ := h
  exact ⟨A, c, h1, h2, Kd.F_bound h3⟩
/-- The document's rate. -/
structure XB (w : World) (g : Nat) (okR : Nat → Prop) (s : St) (vi vo : Value) (ri ro : RowsL) : Prop where
  at_ : At 53 w g s vi vo
  ri : Rd w okR vi ri
  ro : Rd w okR vo ro
  gR : ¬ okR g
  lR : ∀ k, okR k → k < w.heap.size
theorem XB.kept (h : XB w g ok s vi vo ri ro) (hk : K3 w w1 S) (hg : ¬ S g) (hS : ∀ k, ok k → ¬ S k) : XB w1 g ok s vi vo ri ro :=
  ⟨h.at_.kept hk hg, h.ri.kept hk hS, h.ro.kept hk hS, h.gR, fun k hk' => Nat.lt_of_lt_of_le (h.lR k hk') hk.1⟩
theorem XB.below (h : XB w g ok s vi vo ri ro) (hb : Below w.heap.size w w1) : XB w1 g ok s vi vo ri ro :=
  h.kept (K3.of_below hb (fun _ => False)) id (fun _ _ => id)
end
/-- Deliveries whose rows are only read. -/
abbrev Nd (w : World) (ok : Nat → Prop) (v : Value) (ds : List S43) : Prop := Kd.N k43 43 w 0 ok v ds
/-- One delivery's cells, read. -/
theorem fk43 {w : World} {ok : Nat → Prop} {t : Int} {v1 v2 : Value} {xs ys : RowsL} (h1 : Rd w ok v1 xs) (h2 : Rd w ok v2 ys) : Kd.FK k43 w ok (⟨t, ⟨xs, ys⟩⟩ : S43) [.int .i64 t, v1, v2] := by
  obtain ⟨A1, c1, rfl, l1, f1⟩ := h1
  obtain ⟨A2, c2, rfl, l2, f2⟩ := h2
  exact k43_mkF w ok (⟨t, ⟨xs, ys⟩⟩ : S43) l1 f1 l2 f2
/-- Whether there are rows. -/
theorem xrows_any {v1 v2 : Value} {xs ys : RowsL} {ok1 ok2 : Nat → Prop} (w : World) (h1 : Rd w ok1 v1 xs) (h2 : Rd w ok2 v2 ys) (b : Bool) (hb : decide (0 < xs.length + ys.length) = b) :
    Calls Try.prog 34 #[.agg #[v1, v2]] w fun e w' => e = .returned (.bool b) ∧ Below w.heap.size w w' := by
  obtain ⟨A1, c1, rfl, l1, f1⟩ := h1
  obtain ⟨A2, c2, rfl, l2, f2⟩ := h2
  refine marqueeref20_rows.calls A1 c1 xs A2 c2 ys b w (Kd.F_now f1) l1 (Kd.F_now f2) l2 ?_
  unfold marqueeref20_rows.f
  subst hb
  split
  · rw [decide_eq_true (by omega)]
  · congr 1
    rw [Bool.eq_iff_iff, decide_eq_true_iff, decide_eq_true_iff]
    omega
set_option maxHeartbeats 2000000 in
set_option maxRecDepth 100000 in
/-- The last row, if there is one. -/
theorem xlast_any {v : Value} {l : RowsL} {ok : Nat → Prop} (w : World) (h : Rd w ok v l) :
    Calls Try.prog 35 #[v] w fun e w' => ∃ v', e = .returned v' ∧ Rd w' ok v' (xlast l) ∧ Below w.heap.size w w' := by
  obtain ⟨A, c, rfl, hl, hF⟩ := h
  have hm := Kd.F_max hF
  by_cases hz : l.length = 0
  · have e : xlast l = [] := by unfold xlast; rw [if_pos hz]
    rw [e]
    have hz' : ((l.length : Int) == 0) = true := beq_iff_eq.mpr (by omega)
    clear hl hF e hm hz
    go_enter Try.func35, Try.ntmps35
    go_wp2
    go_ret
    exact ⟨_, rfl, Rd.nil _ _, Below.refl _ _⟩
  · have e : xlast l = l.drop (l.length - 1) := by unfold xlast; rw [if_neg hz]
    rw [e]
    have hz' : ((l.length : Int) == 0) = false := beq_eq_false_iff_ne.mpr (by omega)
    obtain ⟨j, hj⟩ : ∃ j : Int, (l.length : Int) - 1 = j := ⟨_, rfl⟩
    have hjw : IntKind.i64.wrap ((l.length : Int) - 1) = j := by rw [← hj]; exact IntWalk.i64_in _ (by omega)
    obtain ⟨i0, hi0, _, hsz, _⟩ := info_parts info61
    have q0 : (0 : Int) ≤ j := by omega
    have q1 : j ≤ (l.length : Int) := by omega
    have hcut := cut_from (P := Try.prog) 29 61 .i64 Try.underlying29 hi0 1 hsz A l.length c j q0 q1
    have hr := Kd.F_cut (m := j.toNat) (c := c) hF (by omega) hl
    have e1 : l.drop j.toNat = l.drop (l.length - 1) := by congr 1; omega
    have e2 : (l.drop (l.length - 1)).length = l.length - j.toNat := by rw [List.length_drop]; omega
    rw [e1] at hr
    obtain ⟨A6, hA6⟩ : ∃ A6, A6 = (if c = j.toNat then A else A.map (·.add (j.toNat * 1))) := ⟨_, rfl⟩
    obtain ⟨c6, hc6⟩ : ∃ c6, c6 = c - j.toNat := ⟨_, rfl⟩
    obtain ⟨m6, hm6⟩ : ∃ m6, m6 = l.length - j.toNat := ⟨_, rfl⟩
    rw [← hA6, ← hc6, ← hm6] at hcut
    have hr' : Kd.F kR w ok A6 (l.drop (l.length - 1)).length (l.drop (l.length - 1)) := by rw [hA6]; exact hr
    have HR : Aside0 (Rd w ok (.slice A6 m6 c6) (l.drop (l.length - 1))) := ⟨⟨A6, c6, by rw [e2, hm6], by rw [e2, hc6]; exact Nat.sub_le_sub_right hl _, hr'⟩⟩
    clear hr' hA6 hc6 hm6
    have q1' := eq_true q1
    clear hr hF hl e e1 e2 hi0 hsz hj hm
    go_enter Try.func35, Try.ntmps35
    go_wp2
    go_ret
    exact ⟨_, rfl, HR.out, Below.refl _ _⟩
end Go.Proofs.Yteklabhmmfklbaa
namespace Go.Proofs.Yteklabhmmfklbaa
open Go.RowKit Print Go.Proofs.YteklabhmmfklbaaW.PrintWords Go.Proofs.YteklabhmmfklbaaW.PrintLast Go.Proofs.YteklabhmmfklbaaW.PrintMore
set_option linter.unusedVariables false
/-! ### The document's New, Next, Len -/
theorem xj0_form (m : Nat) (b : Bool) (k n : Int) (t : Bool) : marqueeref20_Check.j0 (m + 1) b k n t = if b = true then (if t = true then (if n ≥ 1 then (if n ≤ 1099511627776 then (some 0) else (some 1)) else (some 1)) else (if n ≥ 1 then (if n ≤ 65536 then (some 0) else (some 1)) else (some 1))) else (some 1) := by unfold marqueeref20_Check.j0; rfl
/-- Both checks say the same. -/
theorem check_same (k n : Int) (t : Bool) : ∃ r, rate_Check.f 4 k n t = some r ∧ marqueeref20_Check.f 4 k n t = some r := by
  unfold rate_Check.f marqueeref20_Check.f
  simp only [xj0_form, j0_form, j1_form]
  rcases (show k = 0 ∨ k = 1 ∨ k = 2 ∨ k = 3 ∨ k = 4 ∨ ¬ (k = 0 ∨ k = 1 ∨ k = 2 ∨ k = 3 ∨ k = 4) by omega) with rfl | rfl | rfl | rfl | rfl | hk
  · by_cases n0 : n = 0
    · subst n0; cases t <;> exact ⟨_, rfl, rfl⟩
    · cases t <;> simp [n0]
  · by_cases n1 : 1 ≤ n <;> by_cases n2 : n ≤ 1099511627776 <;> by_cases n3 : n ≤ 65536 <;> cases t <;> simp [n1, n2, n3]
  · by_cases n1 : 1 ≤ n <;> by_cases n2 : n ≤ 1099511627776 <;> by_cases n3 : n ≤ 65536 <;> cases t <;> simp [n1, n2, n3]
  · by_cases n1 : 1 ≤ n <;> by_cases n2 : n ≤ 1099511627776 <;> by_cases n3 : n ≤ 65536 <;> cases t <;> simp [n1, n2, n3]
  · by_cases n1 : 1 ≤ n <;> by_cases n2 : n ≤ 1099511627776 <;> by_cases n3 : n ≤ 65536 <;> cases t <;> simp [n1, n2, n3]
  · have k0 : k ≠ 0 := fun h => hk (.inl h)
    have k1 : k ≠ 1 := fun h => hk (.inr (.inl h))
    have k2 : k ≠ 2 := fun h => hk (.inr (.inr (.inl h)))
    have k3 : k ≠ 3 := fun h => hk (.inr (.inr (.inr (.inl h))))
    have k4 : k ≠ 4 := fun h => hk (.inr (.inr (.inr (.inr h))))
    have e : ¬ (1 ≤ k ∧ k ≤ 4) := by omega
    by_cases e1 : 1 ≤ k
    · have e2 : ¬ k ≤ 4 := by omega
      cases t <;> simp [k0, k1, k2, k3, k4, e1, e2]
    · cases t <;> simp [k0, k1, k2, k3, k4, e1]
set_option maxHeartbeats 2000000 in
set_option maxRecDepth 100000 in
theorem xnew_none (k n : Int) (t : Bool) (now : Int) (r : Int) (w : World) (hc : marqueeref20_Check.f 4 k n t = some r) (hr : r ≠ 0) :
    Calls Try.prog 16 #[.agg #[.int .i64 k, .int .i64 n, .bool t], .int .i64 now] w (fun e w' => e = .returned (.pointer none) ∧ Below w.heap.size w w') := by
  have hu23 := Try.underlying23
  have HC := Aside0.mk hc
  have hr1 : (r == 0) = false := beq_eq_false_iff_ne.2 hr
  have hr2 : (r = 0) = False := eq_false hr
  clear hc hr
  go_enter Try.func16, Try.ntmps16
  go_wp2_with (first | (go_at_call 18; refine (marqueeref20_Check.calls 4 k n t r _ HC.out).mono ?_; rintro e w1 ⟨rfl, hb⟩; have HB1 := Aside0.mk (below_step (below_alloc (Below.refl w.heap.size w) _) hb); clear hb))
  go_ret
  exact ⟨rfl, HB1.out⟩
set_option maxHeartbeats 2000000 in
set_option maxRecDepth 100000 in
theorem xnew_late (k n : Int) (t : Bool) (now : Int) (w : World) (hc : marqueeref20_Check.f 4 k n t = some 0) (h0 : now < 0 ∨ 1152921504606846976 < now) :
    Calls Try.prog 16 #[.agg #[.int .i64 k, .int .i64 n, .bool t], .int .i64 now] w (fun e w' => e = .returned (.pointer none) ∧ Below w.heap.size w w') := by
  have hu23 := Try.underlying23
  have HC := Aside0.mk hc
  clear hc
  by_cases n0 : now < 0
  · have n1 : ¬ now > 1152921504606846976 := by omega
    clear h0
    go_enter Try.func16, Try.ntmps16
    go_wp2_with (first | (go_at_call 18; refine (marqueeref20_Check.calls 4 k n t 0 _ HC.out).mono ?_; rintro e w1 ⟨rfl, hb⟩; have HB1 := Aside0.mk (below_step (below_alloc (Below.refl w.heap.size w) _) hb); clear hb))
    go_ret
    exact ⟨rfl, HB1.out⟩
  · have n1 : 1152921504606846976 < now := by omega
    clear h0
    go_enter Try.func16, Try.ntmps16
    go_wp2_with (first | (go_at_call 18; refine (marqueeref20_Check.calls 4 k n t 0 _ HC.out).mono ?_; rintro e w1 ⟨rfl, hb⟩; have HB1 := Aside0.mk (below_step (below_alloc (Below.refl w.heap.size w) _) hb); clear hb))
    go_ret
    exact ⟨rfl, HB1.out⟩
set_option maxHeartbeats 2000000 in
set_option maxRecDepth 100000 in
theorem xnew_any (k n : Int) (t : Bool) (now : Int) (w : World) (hc : marqueeref20_Check.f 4 k n t = some 0) (n0 : 0 ≤ now) (n1 : now ≤ 1152921504606846976) (hn0 : 0 ≤ n) (hn1 : n ≤ 1099511627776) :
    Calls Try.prog 16 #[.agg #[.int .i64 k, .int .i64 n, .bool t], .int .i64 now] w (fun e w' => ∃ g, e = .returned (.pointer (some ⟨g, 0, none⟩)) ∧ w.heap.size ≤ g ∧ At 53 w' g ⟨k, n, t, now, now + n, 0, false⟩ nilV nilV ∧ Below w.heap.size w w') := by
  have hu23 := Try.underlying23
  have hu53 := Try.underlying53
  have HC := Aside0.mk hc
  clear hc
  go_enter Try.func16, Try.ntmps16
  go_wp2_with (first | (go_at_call 18; refine (marqueeref20_Check.calls 4 k n t 0 _ HC.out).mono ?_; rintro e w1 ⟨rfl, hb⟩; have hbx : w1.heap[w.heap.size]? = some (.cells #[.int .i64 k, .int .i64 n, .bool t] 23 (0, 0)) := (hb.block _ (by simp)).trans (by simpa using heap_alloc_new w _); have z0 : w1.cell? ⟨w.heap.size, 0, none⟩ = some (.int .i64 k) := (blk_cell hbx 0).trans rfl; have z1 : w1.cell? ⟨w.heap.size, 1, none⟩ = some (.int .i64 n) := (blk_cell hbx 1).trans rfl; have z2 : w1.cell? ⟨w.heap.size, 2, none⟩ = some (.bool t) := (blk_cell hbx 2).trans rfl; have HB1 := Aside0.mk (below_step (below_alloc (Below.refl w.heap.size w) _) hb); clear hb hbx))
  go_ret
  exact ⟨w1.heap.size, rfl, HB1.out.size, heap_alloc_new w1 _, below_alloc HB1.out _⟩
set_option maxHeartbeats 1000000 in
set_option maxRecDepth 100000 in
theorem xlen_at (g : Nat) (s : St) (A0 : Option Addr) (n0 c0 : Nat) (A1 : Option Addr) (n1 c1 : Nat) (w : World) (h : At 53 w g s (.slice A0 n0 c0) (.slice A1 n1 c1)) (h0 : n0 ≤ 4398046511104) (h1 : n1 ≤ 4398046511104) :
    Calls Try.prog 24 #[.pointer (some ⟨g, 0, none⟩)] w fun e w' => e = .returned (.int .i64 ((n0 : Int) + n1)) ∧ Below w.heap.size w w' := by
  obtain ⟨a0, a1, a2, a3, a4, a5, a6, a7, a8⟩ := h.cells
  clear h
  go_enter Try.func24, Try.ntmps24
  go_upto_region 1 with fail
  go_quiet (fail)
  go_wp2
  go_ret
  exact ⟨rfl, by repeat (first | exact Below.refl _ _ | apply below_alloc | apply pw_below_drewN | apply below_drew1)⟩
set_option maxHeartbeats 2000000 in
set_option maxRecDepth 100000 in
theorem xnext_at (g : Nat) (s : St) (A0 : Option Addr) (n0 c0 : Nat) (A1 : Option Addr) (n1 c1 : Nat) (w : World) (h : At 53 w g s (.slice A0 n0 c0) (.slice A1 n1 c1)) (h0 : n0 ≤ 4398046511104) (h1 : n1 ≤ 4398046511104) :
    Calls Try.prog 23 #[.pointer (some ⟨g, 0, none⟩)] w fun e w' => e = .returned (.tuple #[.int .i64 (if s.t = false ∨ (n0 + n1 = 0 ∧ s.told = false ∧ s.k ≠ 4) then 0 else s.border), .bool (if s.t = false ∨ (n0 + n1 = 0 ∧ s.told = false ∧ s.k ≠ 4) then false else true)]) ∧ Below w.heap.size w w' := by
  have HL := Aside0.mk (xlen_at g s A0 n0 c0 A1 n1 c1 w h h0 h1)
  obtain ⟨a0, a1, a2, a3, a4, a5, a6, a7, a8⟩ := h.cells
  clear h
  obtain ⟨k, n, t, clock, border, events, told⟩ := s
  simp only at a0 a1 a2 a3 a4 a5 a6 a7 a8 ⊢
  cases t
  · rw [if_pos (.inl rfl), if_pos (.inl rfl)]
    go_enter Try.func23, Try.ntmps23
    go_wp2
    go_ret2
    exact ⟨rfl, Below.refl _ _⟩
  · by_cases z : 0 < n0 + n1
    · rw [if_neg (fun h => by rcases h with h | h; cases h; omega), if_neg (fun h => by rcases h with h | h; cases h; omega)]
      have e0 : (((n0 : Int) + n1) == 0) = false := beq_eq_false_iff_ne.mpr (by omega)
      clear z
      go_enter Try.func23, Try.ntmps23
      go_wp2_with (first | (go_at_call 24; refine HL.out.mono ?_; rintro e w1 ⟨rfl, hb⟩; have z4 := pw_cell_below hb a4; have HB1 := Aside0.mk hb; clear hb HL))
      go_ret2
      exact ⟨rfl, HB1.out⟩
    · have e0 : (((n0 : Int) + n1) == 0) = true := beq_iff_eq.mpr (by omega)
      cases told
      · by_cases k4 : k = 4
        · subst k4
          rw [if_neg (fun h => by rcases h with h | h; cases h; exact h.2.2 rfl), if_neg (fun h => by rcases h with h | h; cases h; exact h.2.2 rfl)]
          clear z
          go_enter Try.func23, Try.ntmps23
          go_wp2_with (first | (go_at_call 24; refine HL.out.mono ?_; rintro e w1 ⟨rfl, hb⟩; have z4 := pw_cell_below hb a4; have z0 := pw_cell_below hb a0; have z8 := pw_cell_below hb a8; have HB1 := Aside0.mk hb; clear hb HL))
          go_ret2
          exact ⟨rfl, HB1.out⟩
        · rw [if_pos (.inr ⟨by omega, rfl, k4⟩), if_pos (.inr ⟨by omega, rfl, k4⟩)]
          have e4 : (k == 4) = false := beq_eq_false_iff_ne.mpr k4
          have e5 : (k != 4) = true := bne_iff_ne.mpr k4
          clear z
          go_enter Try.func23, Try.ntmps23
          go_wp2_with (first | (go_at_call 24; refine HL.out.mono ?_; rintro e w1 ⟨rfl, hb⟩; have z4 := pw_cell_below hb a4; have z0 := pw_cell_below hb a0; have z8 := pw_cell_below hb a8; have HB1 := Aside0.mk hb; clear hb HL))
          go_ret2
          exact ⟨rfl, HB1.out⟩
      · rw [if_neg (fun h => by rcases h with h | h; cases h; cases h.2.1), if_neg (fun h => by rcases h with h | h; cases h; cases h.2.1)]
        clear z
        go_enter Try.func23, Try.ntmps23
        go_wp2_with (first | (go_at_call 24; refine HL.out.mono ?_; rintro e w1 ⟨rfl, hb⟩; have z4 := pw_cell_below hb a4; have z0 := pw_cell_below hb a0; have z8 := pw_cell_below hb a8; have HB1 := Aside0.mk hb; clear hb HL))
        go_ret2
        exact ⟨rfl, HB1.out⟩
end Go.Proofs.Yteklabhmmfklbaa
namespace Go.Proofs.Yteklabhmmfklbaa
open Go.RowKit Print Go.Proofs.YteklabhmmfklbaaW.PrintWords Go.Proofs.YteklabhmmfklbaaW.PrintLast Go.Proofs.YteklabhmmfklbaaW.PrintMore
set_option linter.unusedVariables false
/-! ### An interval's end, by the document -/
theorem xend_at {ty : Nat} {w : World} {g : Nat} {s : St} {vi vo : Value} (h : At ty w g s vi vo) :
    At ty ((((w.setCell ⟨g, 6, none⟩ nilV).setCell ⟨g, 7, none⟩ nilV).setCell ⟨g, 8, none⟩ (.bool false)).setCell ⟨g, 5, none⟩ (.int .i64 0)) g { s with told := false, events := 0 } nilV nilV := by
  have := blk_set (blk_set (blk_set (blk_set h 6 nilV) 7 nilV) 8 (.bool false)) 5 (.int .i64 0)
  simpa [At, cellsP] using this
/-- The world behind the stores. -/
abbrev endW (w : World) (g : Nat) : World := ((((w.setCell ⟨g, 6, none⟩ nilV).setCell ⟨g, 7, none⟩ nilV).setCell ⟨g, 8, none⟩ (.bool false)).setCell ⟨g, 5, none⟩ (.int .i64 0))
theorem k3_end (w : World) (g : Nat) : K3 w (endW w g) (fun k => k = g) :=
  ((((K3.refl w (fun k => k = g)).setCell (p := ⟨g, 6, none⟩) (.inl rfl) nilV).setCell (p := ⟨g, 7, none⟩) (.inl rfl) nilV).setCell (p := ⟨g, 8, none⟩) (.inl rfl) (.bool false)).setCell (p := ⟨g, 5, none⟩) (.inl rfl) (.int .i64 0)
/-- What the end leaves. -/
def XEnd (w : World) (g : Nat) (s : St) (okD : Nat → Prop) (v : Value) (ds : List S43) (e : Ending) (w' : World) : Prop :=
  ∃ v', e = .returned v' ∧ At 53 w' g { s with told := false, events := 0 } nilV nilV ∧ Nd w' okD v' ds ∧ K3 w w' (fun k => k = g ∨ some k = v.ownBlock) ∧ (v'.ownBlock = v.ownBlock ∨ ∃ b, v'.ownBlock = some b ∧ w.heap.size ≤ b)
theorem xend_keep {w w1 : World} {g : Nat} {s : St} {vi vo v : Value} {okD : Nat → Prop} {ds : List S43} (h : At 53 w g s vi vo) (hd : Nd w okD v ds) (hg : ¬ okD g) (hb : Below (endW w g).heap.size (endW w g) w1) : XEnd w g s okD v ds (.returned v) w1 :=
  ⟨v, rfl, (xend_at h).below hb, Kd.N_kept hd ((k3_end w g).below hb).kept (fun k hk e => hg (e ▸ hk)), ((k3_end w g).below hb).mono (fun k h => .inl h), .inl rfl⟩
theorem xend_more {w w1 w2 : World} {g : Nat} {s : St} {vi vo v v2 : Value} {okD : Nat → Prop} {ds : List S43} (h : At 53 w g s vi vo) (hgv : some g ≠ v.ownBlock) (hb : Below (endW w g).heap.size (endW w g) w1) (hN : Nd w2 okD v2 ds) (hgr : w1.grownBy w2 v.ownBlock) (hat : v2.ownBlock = v.ownBlock ∨ ∃ b, v2.ownBlock = some b ∧ w1.heap.size ≤ b) : XEnd w g s okD v ds (.returned v2) w2 :=
  have hA := (xend_at h).below hb
  have hK := (k3_end w g).below hb
  ⟨v2, rfl, (hgr.block g hA.lt hgv).trans hA, hN, K3.of_grown hgr (hK.mono (fun k h => .inl h)) (fun k h => .inl (.inr h.symm)), hat.imp id (fun ⟨b, h1, h2⟩ => ⟨b, h1, Nat.le_trans hK.1 h2⟩)⟩
theorem below_end {w w1 : World} {g : Nat} {o : Obj} (hb : Below ((endW w g).alloc o).heap.size ((endW w g).alloc o) w1) : Below (endW w g).heap.size (endW w g) w1 := below_step (below_alloc (Below.refl _ _) o) hb
theorem blk_end {w w1 : World} {g : Nat} {vx vy : Value} (hb : Below ((endW w g).alloc (.cells #[vx, vy] 31)).heap.size ((endW w g).alloc (.cells #[vx, vy] 31)) w1) : w1.heap[w.heap.size]? = some (.cells #[vx, vy] 31 (0, 0)) :=
  (hb.block w.heap.size (by simp [World.setCell])).trans (by have := heap_alloc_new (endW w g) (.cells #[vx, vy] 31); simpa [World.setCell] using this)
theorem room_1 {n : Nat} (h : n ≤ 100000) : (n + 1) * 56 ≤ 140737488355328 := by omega
set_option maxHeartbeats 4000000 in
set_option maxRecDepth 100000 in
theorem xend_any (g : Nat) (s : St) (at_ : Int) (vi vo v2 v : Value) (ri ro all : RowsL) (okR okA okD : Nat → Prop) (ds : List S43) (w : World) (hk : s.k = 1 ∨ s.k = 2 ∨ s.k = 3 ∨ s.k = 4) (h : XB w g okR s vi vo ri ro) (ha : Rd w okA v2 all) (hd : Nd w okD v ds)
    (hR : ∀ k, okR k → okD k ∧ some k ≠ v.ownBlock) (hA : ∀ k, okA k → okD k ∧ some k ≠ v.ownBlock) (hag : ¬ okA g) (hf : ∀ k, w.heap.size ≤ k → okD k) (hg : ¬ okD g) (hl : ds.length ≤ 100000) :
    Calls Try.prog 33 #[.pointer (some ⟨g, 0, none⟩), .int .i64 at_, v2, v] w (XEnd w g s okD v (ds ++ endD s.k at_ ri ro all)) := by
  have hu31 := Try.underlying31
  have hu43 := Try.underlying43
  have hlt := h.at_.lt
  obtain ⟨A0, c0, rfl, l0, F0⟩ := id h.ri
  obtain ⟨A1, c1, rfl, l1, F1⟩ := id h.ro
  obtain ⟨A2, c2, rfl, l2, F2⟩ := id ha
  obtain ⟨A3, c3, rfl⟩ := Kd.N_slice hd
  obtain ⟨a0, a1, a2, a3, a4, a5, a6, a7, a8⟩ := h.at_.cells
  have f5 := h.at_.frozen 5
  have f6 := h.at_.frozen 6
  have f7 := h.at_.frozen 7
  have f8 := h.at_.frozen 8
  have hgv : some g ≠ (Value.slice A3 ds.length c3).ownBlock := fun e => hg (hd.1 g e.symm)
  have HX := Aside0.mk h
  have HD := Aside0.mk hd
  have HG := Aside0.mk (And.intro hg hgv)
  have HF := Aside0.mk hf
  have HRD := Aside0.mk (fun W (hK : K3 w W (fun k => k = g)) => And.intro (h.ri.kept hK (fun k hk e => h.gR (e ▸ hk))) (And.intro (h.ro.kept hK (fun k hk e => h.gR (e ▸ hk))) (ha.kept hK (fun k hk e => hag (e ▸ hk)))))
  have HOK := Aside0.mk (And.intro hR hA)
  have HL := Aside0.mk hl
  have HND := Aside0.mk (fun w1 (hb : Below (endW w g).heap.size (endW w g) w1) => Kd.N_kept hd ((k3_end w g).below hb).kept (fun k hk e => hg (e ▸ hk)))
  clear h l0 F0 l1 F1 l2 F2 ha hd hR hA hf hg hl hgv hag
  obtain ⟨k, n, t, clock, border, events, told⟩ := s
  rcases (show k = 1 ∨ k = 3 ∨ k = 2 ∨ k = 4 by simp only at hk; omega) with hk | hk | hk | hk
  · obtain rfl : k = 1 := hk
    obtain ⟨b, hb⟩ : ∃ b, decide (0 < (ri : RowsL).length + (ro : RowsL).length) = b := ⟨_, rfl⟩
    have HSM := Aside0.mk (fun W (hK : K3 w W (fun k => k = g)) => xrows_any W (HRD.out W hK).1 (HRD.out W hK).2.1 b hb)
    have HB := Aside0.mk hb
    clear hb
    cases b
    · have HE : Aside0 (ds ++ endD 1 at_ ri ro all = ds) := ⟨by have := of_decide_eq_false HB.out; unfold endD; rw [if_pos (by decide), if_pos (by omega), List.append_nil]⟩
      go_enter Try.func33, Try.ntmps33
      go_wp2_with (first | (go_at_call 34; refine (HSM.out _ ((k3_end w g).alloc _)).mono ?_; rintro e w1 ⟨rfl, hb⟩; have HB1 := Aside0.mk (below_end hb); clear hb))
      go_ret
      show XEnd w g _ okD _ (ds ++ endD 1 at_ ri ro all) _ _
      rw [HE.out]
      exact xend_keep HX.out.at_ HD.out HG.out.1 HB1.out
    · have HE : Aside0 (ds ++ endD 1 at_ ri ro all = ds ++ [⟨at_, ⟨ri, ro⟩⟩]) := ⟨by have := of_decide_eq_true HB.out; unfold endD; rw [if_pos (by decide), if_neg (by omega)]⟩
      go_enter Try.func33, Try.ntmps33
      go_wp2_with (first | (go_at_call 34; refine (HSM.out _ ((k3_end w g).alloc _)).mono ?_; rintro e w1 ⟨rfl, hb⟩; have hx := blk_end (vx := .slice A0 ri.length c0) (vy := .slice A1 ro.length c1) hb; have z0 : w1.cell? ⟨w.heap.size, 0, none⟩ = some (.slice A0 ri.length c0) := (blk_cell hx 0).trans rfl; have z1 : w1.cell? ⟨w.heap.size, 1, none⟩ = some (.slice A1 ro.length c1) := (blk_cell hx 1).trans rfl; have HB1 := Aside0.mk (below_end hb); clear hb hx) | ((with_reducible refine gate_builtin (b := .append) (xs := #[.tmp 38, .tmp 42]) rfl ?_); at_builtin; refine Kd.N_append k43 (W := w1) (w0 := w1) 0 rfl (.tmp 38) (.tmp 42) 35 43 (.agg #[.int .i64 0, .slice none 0 0, .slice none 0 0]) 56 rfl Try.underlying35 info43 rfl (by decide) (by decide) (.slice A3 ds.length c3) ds (⟨at_, ⟨ri, ro⟩⟩ : S43) [.int .i64 at_, .slice A0 ri.length c0, .slice A1 ro.length c1] okD okR rfl rfl ?_ HOK.out.1 ?_ (HND.out _ HB1.out) (Below.refl _ _) (Nat.zero_le _) (room_1 HL.out) ?_; (· exact fk43 (HRD.out _ ((k3_end w g).below HB1.out)).1 (HRD.out _ ((k3_end w g).below HB1.out)).2.1); (· exact fun k hk => HF.out k (Nat.le_trans ((k3_end w g).below HB1.out).1 hk)); intro v5 w5 ho hb5 hg5 hat5; obtain ⟨A5, c5, rfl⟩ := Kd.N_slice ho; rw [List.length_append, List.length_singleton] at ho hat5 ⊢; have HM := Aside0.mk (xend_more HX.out.at_ HG.out.2 HB1.out ho hg5 hat5); clear ho hb5 hg5 hat5))
      go_ret
      show XEnd w g _ okD _ (ds ++ endD 1 at_ ri ro all) _ _
      rw [HE.out]
      exact HM.out
  · obtain rfl : k = 3 := hk
    obtain ⟨b, hb⟩ : ∃ b, decide (0 < (ri : RowsL).length + (ro : RowsL).length) = b := ⟨_, rfl⟩
    have HSM := Aside0.mk (fun W (hK : K3 w W (fun k => k = g)) => xrows_any W (HRD.out W hK).1 (HRD.out W hK).2.1 b hb)
    have HB := Aside0.mk hb
    clear hb
    cases b
    · have HE : Aside0 (ds ++ endD 3 at_ ri ro all = ds) := ⟨by have := of_decide_eq_false HB.out; unfold endD; rw [if_pos (by decide), if_pos (by omega), List.append_nil]⟩
      go_enter Try.func33, Try.ntmps33
      go_wp2_with (first | (go_at_call 34; refine (HSM.out _ ((k3_end w g).alloc _)).mono ?_; rintro e w1 ⟨rfl, hb⟩; have HB1 := Aside0.mk (below_end hb); clear hb))
      go_ret
      show XEnd w g _ okD _ (ds ++ endD 3 at_ ri ro all) _ _
      rw [HE.out]
      exact xend_keep HX.out.at_ HD.out HG.out.1 HB1.out
    · have HE : Aside0 (ds ++ endD 3 at_ ri ro all = ds ++ [⟨at_, ⟨ri, ro⟩⟩]) := ⟨by have := of_decide_eq_true HB.out; unfold endD; rw [if_pos (by decide), if_neg (by omega)]⟩
      go_enter Try.func33, Try.ntmps33
      go_wp2_with (first | (go_at_call 34; refine (HSM.out _ ((k3_end w g).alloc _)).mono ?_; rintro e w1 ⟨rfl, hb⟩; have hx := blk_end (vx := .slice A0 ri.length c0) (vy := .slice A1 ro.length c1) hb; have z0 : w1.cell? ⟨w.heap.size, 0, none⟩ = some (.slice A0 ri.length c0) := (blk_cell hx 0).trans rfl; have z1 : w1.cell? ⟨w.heap.size, 1, none⟩ = some (.slice A1 ro.length c1) := (blk_cell hx 1).trans rfl; have HB1 := Aside0.mk (below_end hb); clear hb hx) | ((with_reducible refine gate_builtin (b := .append) (xs := #[.tmp 38, .tmp 42]) rfl ?_); at_builtin; refine Kd.N_append k43 (W := w1) (w0 := w1) 0 rfl (.tmp 38) (.tmp 42) 35 43 (.agg #[.int .i64 0, .slice none 0 0, .slice none 0 0]) 56 rfl Try.underlying35 info43 rfl (by decide) (by decide) (.slice A3 ds.length c3) ds (⟨at_, ⟨ri, ro⟩⟩ : S43) [.int .i64 at_, .slice A0 ri.length c0, .slice A1 ro.length c1] okD okR rfl rfl ?_ HOK.out.1 ?_ (HND.out _ HB1.out) (Below.refl _ _) (Nat.zero_le _) (room_1 HL.out) ?_; (· exact fk43 (HRD.out _ ((k3_end w g).below HB1.out)).1 (HRD.out _ ((k3_end w g).below HB1.out)).2.1); (· exact fun k hk => HF.out k (Nat.le_trans ((k3_end w g).below HB1.out).1 hk)); intro v5 w5 ho hb5 hg5 hat5; obtain ⟨A5, c5, rfl⟩ := Kd.N_slice ho; rw [List.length_append, List.length_singleton] at ho hat5 ⊢; have HM := Aside0.mk (xend_more HX.out.at_ HG.out.2 HB1.out ho hg5 hat5); clear ho hb5 hg5 hat5))
      go_ret
      show XEnd w g _ okD _ (ds ++ endD 3 at_ ri ro all) _ _
      rw [HE.out]
      exact HM.out
  · obtain rfl : k = 2 := hk
    obtain ⟨b, hb⟩ : ∃ b, decide (0 < ([] : RowsL).length + ([] : RowsL).length) = b := ⟨_, rfl⟩
    have HSM := Aside0.mk (fun W (hK : K3 w W (fun k => k = g)) => xrows_any W (Rd.nil W okR) (Rd.nil W okR) b hb)
    have HB := Aside0.mk hb
    clear hb
    cases b
    · have HE : Aside0 (ds ++ endD 2 at_ ri ro all = ds) := ⟨by unfold endD; rw [if_neg (by decide), if_neg (by decide), List.append_nil]⟩
      go_enter Try.func33, Try.ntmps33
      go_wp2_with (first | (go_at_call 34; refine (HSM.out _ ((k3_end w g).alloc _)).mono ?_; rintro e w1 ⟨rfl, hb⟩; have HB1 := Aside0.mk (below_end hb); clear hb))
      go_ret
      show XEnd w g _ okD _ (ds ++ endD 2 at_ ri ro all) _ _
      rw [HE.out]
      exact xend_keep HX.out.at_ HD.out HG.out.1 HB1.out
    · exact absurd (of_decide_eq_true HB.out) (by simp)
  · obtain rfl : k = 4 := hk
    obtain ⟨b, hb⟩ : ∃ b, decide (0 < (all : RowsL).length + ([] : RowsL).length) = b := ⟨_, rfl⟩
    have HSM := Aside0.mk (fun W (hK : K3 w W (fun k => k = g)) => xrows_any W (HRD.out W hK).2.2 (Rd.nil W okA) b hb)
    have HB := Aside0.mk hb
    clear hb
    cases b
    · have HE : Aside0 (ds ++ endD 4 at_ ri ro all = ds) := ⟨by have := of_decide_eq_false HB.out; unfold endD; rw [if_neg (by decide), if_pos rfl, if_pos (List.eq_nil_of_length_eq_zero (by have h0 : ([] : RowsL).length = 0 := rfl; omega)), List.append_nil]⟩
      go_enter Try.func33, Try.ntmps33
      go_wp2_with (first | (go_at_call 34; refine (HSM.out _ ((k3_end w g).alloc _)).mono ?_; rintro e w1 ⟨rfl, hb⟩; have HB1 := Aside0.mk (below_end hb); clear hb))
      go_ret
      show XEnd w g _ okD _ (ds ++ endD 4 at_ ri ro all) _ _
      rw [HE.out]
      exact xend_keep HX.out.at_ HD.out HG.out.1 HB1.out
    · have HE : Aside0 (ds ++ endD 4 at_ ri ro all = ds ++ [⟨at_, ⟨all, []⟩⟩]) := ⟨by have := of_decide_eq_true HB.out; unfold endD; rw [if_neg (by decide), if_pos rfl, if_neg (by rintro rfl; simp at this)]⟩
      go_enter Try.func33, Try.ntmps33
      go_wp2_with (first | (go_at_call 34; refine (HSM.out _ ((k3_end w g).alloc _)).mono ?_; rintro e w1 ⟨rfl, hb⟩; have hx := blk_end (vx := .slice A2 all.length c2) (vy := .slice none 0 0) hb; have z0 : w1.cell? ⟨w.heap.size, 0, none⟩ = some (.slice A2 all.length c2) := (blk_cell hx 0).trans rfl; have z1 : w1.cell? ⟨w.heap.size, 1, none⟩ = some (.slice none 0 0) := (blk_cell hx 1).trans rfl; have HB1 := Aside0.mk (below_end hb); clear hb hx) | ((with_reducible refine gate_builtin (b := .append) (xs := #[.tmp 38, .tmp 42]) rfl ?_); at_builtin; refine Kd.N_append k43 (W := w1) (w0 := w1) 0 rfl (.tmp 38) (.tmp 42) 35 43 (.agg #[.int .i64 0, .slice none 0 0, .slice none 0 0]) 56 rfl Try.underlying35 info43 rfl (by decide) (by decide) (.slice A3 ds.length c3) ds (⟨at_, ⟨all, []⟩⟩ : S43) [.int .i64 at_, .slice A2 all.length c2, .slice none 0 0] okD okA rfl rfl ?_ HOK.out.2 ?_ (HND.out _ HB1.out) (Below.refl _ _) (Nat.zero_le _) (room_1 HL.out) ?_; (· exact fk43 (HRD.out _ ((k3_end w g).below HB1.out)).2.2 (Rd.nil _ _)); (· exact fun k hk => HF.out k (Nat.le_trans ((k3_end w g).below HB1.out).1 hk)); intro v5 w5 ho hb5 hg5 hat5; obtain ⟨A5, c5, rfl⟩ := Kd.N_slice ho; rw [List.length_append, List.length_singleton] at ho hat5 ⊢; have HM := Aside0.mk (xend_more HX.out.at_ HG.out.2 HB1.out ho hg5 hat5); clear ho hb5 hg5 hat5))
      go_ret
      show XEnd w g _ okD _ (ds ++ endD 4 at_ ri ro all) _ _
      rw [HE.out]
      exact HM.out
end Go.Proofs.Yteklabhmmfklbaa
