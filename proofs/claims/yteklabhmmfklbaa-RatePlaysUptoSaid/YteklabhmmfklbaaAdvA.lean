import Derived.Test.YteklabhmmfklbaaAdv
import Derived.Test.YteklabhmmfklbaaMgG
namespace Go.Proofs.Yteklabhmmfklbaa
open Go.RowKit Print Go.Proofs.YteklabhmmfklbaaW.PrintWords Go.Proofs.YteklabhmmfklbaaW.PrintLast Go.Proofs.YteklabhmmfklbaaW.PrintMore
set_option linter.unusedVariables false
/-- What a rate that New gave is always like. -/
structure Good (s : St) : Prop where
  k0 : s.k = 0 ∨ s.k = 1 ∨ s.k = 2 ∨ s.k = 3 ∨ s.k = 4
  t0 : s.t = true → s.k ≠ 0
  c0 : 0 ≤ s.clock
  cl : s.clock ≤ late
  n1 : s.t = true → 1 ≤ s.n
  n2 : s.n ≤ 1099511627776
  b0 : s.t = true → 0 ≤ s.border
  b1 : s.t = true → s.border ≤ s.clock + s.n
def AdvQ (w : World) (g : Nat) (okI okO : Nat → Prop) (R : St × RowsL × RowsL × List S43) (e : Ending) (w' : World) : Prop :=
  ∃ v vi vo, ∃ okD okI' okO' : Nat → Prop, e = .returned v ∧ Both w' g R.1 okI' okO' vi vo R.2.1 R.2.2.1 ∧ k43.R 43 w' 0 okD v R.2.2.2 ∧ K3 w w' (fun k => k = g) ∧
    (∀ k, okI' k → okI k) ∧ (∀ k, okO' k → okO k) ∧ (∀ k, okD k → (okI k ∨ okO k ∨ w.heap.size ≤ k) ∧ k < w'.heap.size ∧ ¬ okI' k ∧ ¬ okO' k)
theorem adv_any (g : Nat) (s : St) (vi vo : Value) (rin rout : RowsL) (okI okO : Nat → Prop) (now : Int) (A : Option Addr) (c : Nat) (all : RowsL) (okA : Nat → Prop) (w : World) (h : Both w g s okI okO vi vo rin rout) (hG : Good s)
    (hsi : Sm rin) (hso : Sm rout) (ha : Kd.F kR w okA A all.length all) (hag : ¬ okA g) (hc : all.length ≤ c) (hs : Sm all) (hmany : s.t = true → mn now late + 1 - s.border ≤ 4002 * s.n) :
    Calls Try.prog 11 #[.pointer (some ⟨g, 0, none⟩), .int .i64 now, .slice A all.length c] w (AdvQ w g okI okO (adv s rin rout now all)) := by
  by_cases hl : now < s.clock
  · refine (adv_late g s vi vo now A all.length c w h.at_ hl).mono fun e w' ⟨he, hw⟩ => ?_
    subst hw
    unfold adv
    rw [if_pos hl]
    exact ⟨nilV, vi, vo, fun _ => False, okI, okO, he, h, Kd.R_nil _ _ _ _ _, K3.refl _ _, fun _ hk => hk, fun _ hk => hk, fun _ hk => hk.elim⟩
  · cases ht : s.t
    · refine (adv_plain g s vi vo now A all.length c w h.at_ hl ht).mono fun e w' ⟨he, hA, hK⟩ => ?_
      unfold adv
      rw [if_neg hl, if_neg (by rw [ht]; decide)]
      exact ⟨nilV, vi, vo, fun _ => False, okI, okO, he, ⟨hA, K3.R h.hi hK (fun k hk e => h.gI (e ▸ hk)), K3.R h.ho hK (fun k hk e => h.gO (e ▸ hk)), h.gI, h.gO, fun k hk => Nat.lt_of_lt_of_le (h.bI k hk) hK.1, fun k hk => Nat.lt_of_lt_of_le (h.bO k hk) hK.1, h.dis⟩, Kd.R_nil _ _ _ _ _, hK, fun _ hk => hk, fun _ hk => hk, fun _ hk => hk.elim⟩
    · have hk : s.k = 1 ∨ s.k = 2 ∨ s.k = 3 ∨ s.k = 4 := hG.k0.resolve_left (hG.t0 ht)
      refine (adv_timed g s vi vo rin rout (fun k => okI k ∨ okO k) okI okO now A c all w hk h.at_ h.hi h.ho (fun _ hk => .inl hk) (fun _ hk => .inr hk) (fun hk => hk.elim h.gI h.gO) (fun k hk => hk.elim (h.bI k) (h.bO k)) hsi hso okA ha hag hc hs ht hl hG.c0 (hG.n1 ht) hG.n2 (hG.b0 ht) (hG.b1 ht) hG.cl (hmany ht)).mono fun e w' hA => ?_
      obtain ⟨v, vi', vo', okD, okI', okO', he, hat, hi, ho, hd, hK, hI, hO, hD⟩ := hA
      exact ⟨v, vi', vo', okD, okI', okO', he, ⟨hat, hi, ho, fun hk => h.gI (hI _ hk), fun hk => h.gO (hO _ hk), fun k hk => Nat.lt_of_lt_of_le (h.bI k (hI k hk)) hK.1, fun k hk => Nat.lt_of_lt_of_le (h.bO k (hO k hk)) hK.1, fun k hk hk' => h.dis k (hI k hk) (hO k hk')⟩, hd, hK, hI, hO,
        fun k hk => ⟨(hD k hk).1.elim (fun h' => h'.elim .inl (fun h'' => .inr (.inl h''))) (fun h' => .inr (.inr h')), (hD k hk).2⟩⟩
/-- What gather makes of the rows of one side. -/
def gatD (k : Int) (old new : RowsL) : RowsL := if k = 1 then old ++ new else if k = 3 then (if new.length = 0 then old else lastOf new) else old
set_option maxHeartbeats 1000000 in
set_option maxRecDepth 100000 in
theorem gather_snap (g : Nat) (s : St) (vi vo : Value) (A : Option Addr) (n c : Nat) (A' : Option Addr) (n' c' : Nat) (w : World) (hk : s.k = 4) (h : At 59 w g s vi vo) :
    Calls Try.prog 29 #[.pointer (some ⟨g, 0, none⟩), .agg #[.slice A n c, .slice A' n' c']] w (fun e w' => e = .returned (.tuple #[]) ∧ Below w.heap.size w w') := by
  have hu31 := Try.underlying31
  have hlt := h.lt
  obtain ⟨a0, a1, a2, a3, a4, a5, a6, a7, a8⟩ := h.cells
  clear h
  obtain ⟨k, n, t, clock, border, events, told⟩ := s
  simp only at hk
  subst hk
  go_enter Try.func29, Try.ntmps29
  go_wp2
  go_end0
  exact ⟨rfl, below_alloc (Below.refl _ _) _⟩
theorem gather_any (g : Nat) (s : St) (vi vo : Value) (rin rout : RowsL) (okI okO : Nat → Prop) (A : Option Addr) (c : Nat) (xs : RowsL) (A' : Option Addr) (c' : Nat) (ys : RowsL) (okX : Nat → Prop) (w : World) (hk : s.k = 1 ∨ s.k = 3 ∨ s.k = 4)
    (h : Both w g s okI okO vi vo rin rout) (hx : Kd.F kR w okX A xs.length xs) (hxc : xs.length ≤ c) (hxs : Sm xs) (hy : Kd.F kR w okX A' ys.length ys) (hyc : ys.length ≤ c') (hys : Sm ys)
    (hX : ∀ k, okX k → k ≠ g ∧ ¬ okI k ∧ ¬ okO k) (hri : rin.length ≤ 2097152) (hro : rout.length ≤ 2097152) :
    Calls Try.prog 29 #[.pointer (some ⟨g, 0, none⟩), .agg #[.slice A xs.length c, .slice A' ys.length c']] w (fun e w' => e = .returned (.tuple #[]) ∧ GatP w g s okI okO (gatD s.k rin xs) (gatD s.k rout ys) w') := by
  rcases hk with k1 | k3 | k4
  · have := gather_all g s vi vo rin rout okI okO A c xs A' c' ys okX w k1 h hx hxc hxs hy hyc hys hX hri hro
    unfold gatD
    rw [if_pos k1, if_pos k1]
    exact this
  · have := gather_last g s vi vo rin rout okI okO A c xs A' c' ys okX w k3 h hx hxc hxs hy hyc hys (fun k hk => (hX k hk).1)
    unfold gatD
    have n1 : ¬ s.k = 1 := by omega
    rw [if_neg n1, if_neg n1, if_pos k3, if_pos k3]
    exact this
  · refine (gather_snap g s vi vo A xs.length c A' ys.length c' w k4 h.at_).mono fun e w' ⟨he, hb⟩ => ?_
    unfold gatD
    have n1 : ¬ s.k = 1 := by omega
    have n3 : ¬ s.k = 3 := by omega
    rw [if_neg n1, if_neg n1, if_neg n3, if_neg n3]
    exact ⟨he, vi, vo, okI, okO, h.below hb, K3.of_below hb _, fun k hk => .inl hk, fun k hk => .inl hk⟩
end Go.Proofs.Yteklabhmmfklbaa
