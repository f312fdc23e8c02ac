import Derived.Test.YteklabhmmfklbaaSplitL
import Derived.Test.YteklabhmmfklbaaNext
namespace Go.Proofs.Yteklabhmmfklbaa
open Go.RowKit Print Go.Proofs.YteklabhmmfklbaaW.PrintWords Go.Proofs.YteklabhmmfklbaaW.PrintLast Go.Proofs.YteklabhmmfklbaaW.PrintMore
set_option linter.unusedVariables false
theorem reads_M {w : World} {F : Nat → Prop} {A : Option Addr} {m c : Nat} {ys : List S43} (h : k43.R 43 w 0 F (.slice A m c) ys) : m = ys.length ∧ ReadsRow (k43.M w 0 F) k43.sz w A m ys := by
  obtain ⟨A2, c2, he, hl, hr⟩ := OwnRow.reads h.2
  injection he with e1 e2 e3
  subst e1 e2
  exact ⟨rfl, hr.imp_ (Below.refl _ _) (fun _ _ hp => k43.M_mono (fun k hk => hk.1) hp)⟩
section
variable {W : World} {L L1 L2 : List Asr} {ops : Array Oper} {o : Oper} {rest : List Oper} {a : Act} {Q : Exit → Act → World → Prop}
/-- Deliveries behind deliveries. -/
theorem app_sep (hgd : o.guard = none) (s x : Operand) (ho : o.op = .call { callee := .builtin .append, args := #[s, x], argTypes := #[35, 35] }) {A A' : Option Addr} {n m c c' : Nat} {xs ys : List S43} (hs : a.eval s = .slice A n c) (hx : a.eval x = .slice A' m c')
    {i j : Nat} (h : Apart W L) (hi : pick i L = Dl (.slice A n c) xs :: L1) (hj : pick j L1 = Dl (.slice A' m c') ys :: L2) (hl : xs.length + ys.length ≤ 100000)
    (hk : ∀ A3 c3 w1, Apart w1 (Dl (.slice A3 (xs ++ ys).length c3) (xs ++ ys) :: L2) → wpList Try.prog ops Q rest (a.put o.dst (.slice A3 (xs ++ ys).length c3)) w1) : wpList Try.prog ops Q (o :: rest) a W := by
  have h1 := h.pick i
  rw [hi] at h1
  obtain ⟨F1, ⟨r1, b1⟩, _, h2⟩ := Sep.out h1
  have h3 := h2.pick j
  rw [hj] at h3
  obtain ⟨F2, ⟨r2, b2⟩, d2, h4⟩ := Sep.out h3
  obtain ⟨hm, hr⟩ := reads_M r2
  refine Kd.R_append_rows k43 (w0 := W) 0 hgd s x 35 43 (.agg #[.int .i64 0, .slice none 0 0, .slice none 0 0]) 56 ho Try.underlying35 info43 rfl (by decide) (by omega) (.slice A n c) xs ys A' m c' (fun k => F1 k ∨ F2 k ∨ W.heap.size ≤ k) F2 hs hx (Kd.R_mono r1 (fun _ h => .inl h)) hr (fun _ _ h => h)
    (fun k hk => ⟨.inr (.inl hk), fun e => d2 k hk (.inr (r1.1 k e.symm))⟩) (fun k hk => .inr (.inr hk)) (Below.refl _ _) (Nat.zero_le _) (by omega) ?_
  intro v1 w1 hR hb hg hat
  obtain ⟨A3, c3, rfl⟩ := Kd.R_slice hR
  refine hk A3 c3 w1 ⟨fun k => (F1 k ∨ F2 k ∨ W.heap.size ≤ k) ∧ k < w1.heap.size, ⟨Kd.R_mono (Kd.R_bound hR) (fun k hk => ⟨hk.1, hk.2.2.1⟩), fun k hk => hk.2⟩, fun _ _ h => h, ?_⟩
  refine h4.frame (K3.of_grown hg (K3.refl W (fun k => F1 k)) (fun k hk => .inl (r1.1 k hk))) (fun k hk => .inl (.inr hk)) (fun k hu => ?_)
  rcases hu with hu | ⟨hu | hu | hu, _⟩
  · exact hu.elim
  · exact .inl (.inl (.inr hu))
  · exact .inl (.inr hu)
  · exact .inr hu
end
/-- Two deliveries that are alike. -/
theorem same2 {w W : World} {L L1 L2 : List Asr} {A A' : Option Addr} {n n' c c' : Nat} {ds : List S43} {i j : Nat} (h : Apart w L) (hi : pick i L = Dl (.slice A n c) ds :: L1) (hj : pick j L = Dl (.slice A' n' c') ds :: L2) (hW : Below w.heap.size w W) (hs : SmD ds) :
    Calls Try.prog 13 #[.slice A n c, .slice A' n' c'] W (fun e w' => e = .returned (.bool true) ∧ Apart w' L) := by
  have h2 := h.onto hW
  have h3 := h2.pick i
  have h4 := h2.pick j
  rw [hi] at h3
  rw [hj] at h4
  obtain ⟨F, ⟨hR, _⟩, _⟩ := h3
  obtain ⟨F', ⟨hR', _⟩, _⟩ := h4
  obtain ⟨rfl, hcc, hC0⟩ := Kd.R_reads' hR
  obtain ⟨rfl, hcc', hC0'⟩ := Kd.R_reads' hR'
  exact (same_any A c A' c' ds W hC0 hcc hC0' hcc' hs).mono fun e w' ⟨he, hb⟩ => ⟨he, h2.onto hb⟩
theorem endD_Sm {k t : Int} {ri ro all : RowsL} (h1 : Sm ri) (h2 : Sm ro) (h3 : Sm all) : ∀ x ∈ endD k t ri ro all, Sm x.f1.f0 ∧ Sm x.f1.f1 := by
  intro x hx
  unfold endD at hx
  split at hx
  · split at hx
    · cases hx
    · rw [List.mem_singleton] at hx; subst hx; exact ⟨h1, h2⟩
  · split at hx
    · split at hx
      · cases hx
      · rw [List.mem_singleton] at hx; subst hx; exact ⟨h3, Sm.nil⟩
    · cases hx
theorem advL_SmD (f : Nat) : ∀ (s : St) (ri ro all : RowsL) (acc : List S43), Sm ri → Sm ro → Sm all → (∀ x ∈ acc, Sm x.f1.f0 ∧ Sm x.f1.f1) → ∀ x ∈ (advL f s ri ro all acc).2.2.2, Sm x.f1.f0 ∧ Sm x.f1.f1 := by
  induction f with
  | zero => intro s ri ro all acc _ _ _ h; exact h
  | succ f ih =>
    intro s ri ro all acc h1 h2 h3 h
    simp only [advL]
    split
    · exact h
    · split
      · exact h
      · exact ih _ [] [] all _ Sm.nil Sm.nil h3 (fun x hx => (List.mem_append.1 hx).elim (h x) (endD_Sm h1 h2 h3 x))
theorem adv_SmD (s : St) {ri ro all : RowsL} (now : Int) (h1 : Sm ri) (h2 : Sm ro) (h3 : Sm all) : SmD (adv s ri ro now all).2.2.2 := by
  refine ⟨Nat.le_trans (adv_len s ri ro now all) (by decide), ?_⟩
  unfold adv
  split
  · intro x hx; cases hx
  · split
    · exact advL_SmD FU _ _ _ _ [] h1 h2 h3 (fun x hx => by cases hx)
    · intro x hx; cases hx
theorem adv_border {s : St} (h : Inv s) (ri ro : RowsL) {a : Int} (all : RowsL) (ha : a ≤ 1125899906842624) (hB : s.t = true → a + 1 - s.border ≤ 4002 * s.n) : Inv (adv s ri ro a all).1 ∧ s.border ≤ (adv s ri ro a all).1.border := by
  by_cases hc : a < s.clock
  · have h1 : adv s ri ro a all = (s, ri, ro, []) := by unfold adv; rw [if_pos hc]
    rw [h1]
    exact ⟨h, Int.le_refl _⟩
  · refine ⟨(adv_inv h ri ro all (by omega) ha hB).1, ?_⟩
    cases ht : s.t
    · have h1 : adv s ri ro a all = ({ s with clock := mn a late }, ri, ro, []) := by unfold adv; rw [if_neg hc, if_neg (by rw [ht]; decide)]
      rw [h1]
      exact Int.le_refl _
    · have h1 : adv s ri ro a all = advL FU { s with clock := a } ri ro all [] := by unfold adv; rw [if_neg hc, if_pos ht, mn_late ha]
      rw [h1]
      have b1 := h.g.b1 ht
      exact (advL_border FU { s with clock := a } ri ro all [] (h.g.n1 ht) (hB ht) (by show s.border ≤ a + s.n; omega)).2.2
theorem adv_go {s : St} (h : Inv s) (ri ro : RowsL) {a b : Int} (all : RowsL) (hab : a ≤ b) (hb : b ≤ 1125899906842624) (hB : s.t = true → b + 1 - s.border ≤ 4002 * s.n) :
    Good (adv s ri ro a all).1 ∧ ((adv s ri ro a all).1.t = true → mn b late + 1 - (adv s ri ro a all).1.border ≤ 4002 * (adv s ri ro a all).1.n) ∧ (s.t = true → mn a late + 1 - s.border ≤ 4002 * s.n) := by
  have hA : s.t = true → a + 1 - s.border ≤ 4002 * s.n := fun ht => by have := hB ht; omega
  obtain ⟨q1, q2⟩ := adv_border h ri ro all (show a ≤ 1125899906842624 by omega) hA
  obtain ⟨k1, k2, k3, k4⟩ := adv_keeps s ri ro a all
  refine ⟨q1.g, fun ht => ?_, fun ht => ?_⟩
  · rw [mn_late hb, k2]
    have := hB (k3.symm.trans ht)
    omega
  · rw [mn_late (by omega)]; exact hA ht
theorem F_move2 {W1 wr w' : World} {A : Option Addr} {n : Nat} {xs : RowsL} (h : Kd.F kR wr (fun k => k < W1.heap.size) A n xs) (h1 : Below W1.heap.size W1 wr) (h2 : Below W1.heap.size W1 w') : Kd.F kR w' (fun k => k < W1.heap.size) A n xs :=
  Kd.F_step h (fun k hk _ => (h2.block k hk).trans (h1.block k hk).symm)
/-- No great number of borders. -/
theorem few2 {s : St} {b : Int} (h : Inv s) (hm : ¬ manyP s.n s.t s.clock b) : s.t = true → b + 1 - s.border ≤ 4002 * s.n := fun ht => by
  by_cases hc : s.clock ≤ b
  · exact few h hm hc ht
  · have := h.tb ht
    have := h.g.n1 ht
    omega
theorem adv_law' {w W : World} {L L' : List Asr} {g : Nat} {s s' : St} {ri ro ri' ro' : RowsL} {ds : List S43} {m : Nat} (now : Int) {A2 : Option Addr} {c2 : Nat} {all : RowsL} {W1 : World} {j : Nat} (h : Apart w (Rt g s ri ro :: L)) (hj : pick j L = Old W1 :: L') (hW : Below w.heap.size w W) (hG : Good s) (hi : Sm ri) (ho : Sm ro)
    (ha : Kd.F kR W (fun k => k < W1.heap.size) A2 all.length all) (hac : all.length ≤ c2) (hs : Sm all) (hmany : s.t = true → mn now late + 1 - s.border ≤ 4002 * s.n) (he : adv s ri ro now all = (s', ri', ro', ds)) (hm : ds.length = m) :
    Calls Try.prog 11 #[.pointer (some ⟨g, 0, none⟩), .int .i64 now, .slice A2 all.length c2] W (fun e w' => ∃ A3 c3, e = .returned (.slice A3 m c3) ∧ Apart w' (Rt g s' ri' ro' :: Dl (.slice A3 m c3) ds :: L)) := by
  obtain ⟨F, hR, _, hl⟩ := Sep.out (h.onto hW)
  have hp := hl.pick j
  rw [hj] at hp
  obtain ⟨FO, hO, hd, _⟩ := Sep.out hp
  subst hm
  exact adv_core now hR (hl.mono (fun k hk => .inr hk)) hG hi ho ha hac hs (fun k hk hF => hd k ((hO.1 k).2 hk) (.inr hF)) hmany he
structure TailF (s : St) (ri ro : RowsL) (a b : Int) (all : RowsL) (s1 : St) (r1 o1 : RowsL) (D1 : List S43) (s3 : St) (r3 o3 : RowsL) (D2 D3 : List S43) (m1 m2 m3 : Nat) : Prop where
  e1 : adv s ri ro a all = (s1, r1, o1, D1)
  e2 : adv s1 r1 o1 b all = (s3, r3, o3, D2)
  e3 : adv s ri ro b all = (s3, r3, o3, D3)
  eD : D1 ++ D2 = D3
  l1 : D1.length = m1
  l2 : D2.length = m2
  l3 : D3.length = m3
  ll : D1.length + D2.length ≤ 100000
  g1 : Good s1
  i1 : Sm r1
  j1 : Sm o1
  i3 : Sm r3
  j3 : Sm o3
  sD : SmD D3
  n1 : s.t = true → mn a late + 1 - s.border ≤ 4002 * s.n
  n2 : s1.t = true → mn b late + 1 - s1.border ≤ 4002 * s1.n
  n3 : s.t = true → mn b late + 1 - s.border ≤ 4002 * s.n
theorem tail_f {s : St} (h : Inv s) {ri ro : RowsL} {a b : Int} {all : RowsL} (si : Sm ri) (so : Sm ro) (sa : Sm all) (hab : a ≤ b) (hb : b ≤ 1125899906842624) (hB : s.t = true → b + 1 - s.border ≤ 4002 * s.n) :
    ∃ s1 r1 o1 D1 s3 r3 o3 D2 D3 m1 m2 m3, TailF s ri ro a b all s1 r1 o1 D1 s3 r3 o3 D2 D3 m1 m2 m3 := by
  have hgo := adv_go h ri ro all hab hb hB
  have hgo2 := adv_go h ri ro all (Int.le_refl b) hb hB
  obtain ⟨p1, p2, p3, p4⟩ := adv_split s ri ro a b all h.g.n1 hab hb hB
  have q1 := adv_Sm (s := s) a all si so
  have q3 := adv_Sm (s := s) b all si so
  have qD := adv_SmD s b si so sa
  have z1 := adv_len s ri ro a all
  have z2 := adv_len (adv s ri ro a all).1 (adv s ri ro a all).2.1 (adv s ri ro a all).2.2.1 b all
  obtain ⟨⟨s1, r1, o1, D1⟩, e1⟩ : ∃ R, adv s ri ro a all = R := ⟨_, rfl⟩
  rw [e1] at hgo p1 p2 p3 p4 q1 z1 z2
  obtain ⟨⟨s3, r3, o3, D3⟩, e3⟩ : ∃ R, adv s ri ro b all = R := ⟨_, rfl⟩
  rw [e3] at p1 p2 p3 p4 q3 qD
  simp only at hgo p1 p2 p3 p4 q1 z1 z2 q3 qD
  obtain ⟨⟨s2, r2, o2, D2⟩, e2⟩ : ∃ R, adv s1 r1 o1 b all = R := ⟨_, rfl⟩
  rw [e2] at p1 p2 p3 p4 z2
  simp only at p1 p2 p3 p4 z2
  subst p1 p2 p3
  exact ⟨s1, r1, o1, D1, s2, r2, o2, D2, D3, _, _, _, e1, e2, e3, p4, rfl, rfl, rfl, by omega, hgo.1, q1.1, q1.2, q3.1, q3.2, qD, hgo.2.2, hgo.2.1, hgo2.2.2⟩
end Go.Proofs.Yteklabhmmfklbaa
