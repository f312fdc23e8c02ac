import Derived.Test.YteklabhmmfklbaaMgS
namespace Go.Proofs.Yteklabhmmfklbaa
open Go.RowKit Print Go.Proofs.YteklabhmmfklbaaW.PrintWords Go.Proofs.YteklabhmmfklbaaW.PrintLast Go.Proofs.YteklabhmmfklbaaW.PrintMore
set_option linter.unusedVariables false
/-- The border that Next tells, if it does. -/
def nextD (s : St) (ri ro : RowsL) : Int × Bool :=
  if s.t = false ∨ (ri.length + ro.length = 0 ∧ s.told = false ∧ s.k ≠ 4) then (0, false) else (s.border, true)
set_option maxHeartbeats 2000000 in
set_option maxRecDepth 100000 in
theorem next_at (g : Nat) (s : St) (A0 : Option Addr) (n0 c0 : Nat) (A1 : Option Addr) (n1 c1 : Nat) (w : World) (h : At 59 w g s (.slice A0 n0 c0) (.slice A1 n1 c1)) (h0 : n0 ≤ 4398046511104) (h1 : n1 ≤ 4398046511104) :
    Calls Try.prog 12 #[.pointer (some ⟨g, 0, none⟩)] w fun e w' => e = .returned (.tuple #[.int .i64 (if s.t = false ∨ (n0 + n1 = 0 ∧ s.told = false ∧ s.k ≠ 4) then 0 else s.border), .bool (if s.t = false ∨ (n0 + n1 = 0 ∧ s.told = false ∧ s.k ≠ 4) then false else true)]) ∧ Below w.heap.size w w' := by
  have hu31 := Try.underlying31
  have HA := Aside0.mk h
  obtain ⟨a0, a1, a2, a3, a4, a5, a6, a7, a8⟩ := h.cells
  clear h
  obtain ⟨k, n, t, clock, border, events, told⟩ := s
  simp only at a0 a1 a2 a3 a4 a5 a6 a7 a8 ⊢
  cases t
  · rw [if_pos (.inl rfl), if_pos (.inl rfl)]
    go_enter Try.func12, Try.ntmps12
    go_wp2
    go_ret2
    exact ⟨rfl, Below.refl _ _⟩
  · have HS := Aside0.mk (fun (b : Bool) (hb : decide (0 < n0 + n1) = b) (u : World) => some_any A0 n0 c0 A1 n1 c1 b u h0 h1 hb)
    by_cases z : 0 < n0 + n1
    · rw [if_neg (fun h => by rcases h with h | h; cases h; omega), if_neg (fun h => by rcases h with h | h; cases h; omega)]
      have HZ := Aside0.mk (decide_eq_true z)
      clear z
      go_enter Try.func12, Try.ntmps12
      go_wp2_with (first | (go_at_call 28; refine (HS.out true HZ.out _).mono ?_; rintro e w1 ⟨rfl, hb⟩; have z4 := pw_cell_below hb a4; have HB1 := Aside0.mk hb; clear hb HS))
      go_ret2
      exact ⟨rfl, HB1.out⟩
    · have HZ := Aside0.mk (decide_eq_false z)
      cases told
      · by_cases k4 : k = 4
        · subst k4
          rw [if_neg (fun h => by rcases h with h | h; cases h; exact h.2.2 rfl), if_neg (fun h => by rcases h with h | h; cases h; exact h.2.2 rfl)]
          clear z
          go_enter Try.func12, Try.ntmps12
          go_wp2_with (first | (go_at_call 28; refine (HS.out false HZ.out _).mono ?_; rintro e w1 ⟨rfl, hb⟩; have z4 := pw_cell_below hb a4; have z0 := pw_cell_below hb a0; have z8 := pw_cell_below hb a8; have HB1 := Aside0.mk hb; clear hb HS))
          go_ret2
          exact ⟨rfl, HB1.out⟩
        · rw [if_pos (.inr ⟨by omega, rfl, k4⟩), if_pos (.inr ⟨by omega, rfl, k4⟩)]
          have e4 : (k == 4) = false := beq_eq_false_iff_ne.mpr k4
          have e5 : (k != 4) = true := bne_iff_ne.mpr k4
          clear z
          go_enter Try.func12, Try.ntmps12
          go_wp2_with (first | (go_at_call 28; refine (HS.out false HZ.out _).mono ?_; rintro e w1 ⟨rfl, hb⟩; have z4 := pw_cell_below hb a4; have z0 := pw_cell_below hb a0; have z8 := pw_cell_below hb a8; have HB1 := Aside0.mk hb; clear hb HS))
          go_ret2
          exact ⟨rfl, HB1.out⟩
      · rw [if_neg (fun h => by rcases h with h | h; cases h; cases h.2.1), if_neg (fun h => by rcases h with h | h; cases h; cases h.2.1)]
        clear z
        go_enter Try.func12, Try.ntmps12
        go_wp2_with (first | (go_at_call 28; refine (HS.out false HZ.out _).mono ?_; rintro e w1 ⟨rfl, hb⟩; have z4 := pw_cell_below hb a4; have z0 := pw_cell_below hb a0; have z8 := pw_cell_below hb a8; have HB1 := Aside0.mk hb; clear hb HS))
        go_ret2
        exact ⟨rfl, HB1.out⟩
theorem next_sep {w W : World} {L L' : List Asr} {g : Nat} {s : St} {ri ro : RowsL} {j : Nat} (h : Apart w L) (hj : pick j L = Rt g s ri ro :: L') (hW : Below w.heap.size w W) (hi : Sm ri) (ho : Sm ro) :
    Calls Try.prog 12 #[.pointer (some ⟨g, 0, none⟩)] W fun e w' => e = .returned (.tuple #[.int .i64 (nextD s ri ro).1, .bool (nextD s ri ro).2]) ∧ Apart w' L := by
  have h2 := h.onto hW
  have h3 := h2.pick j
  rw [hj] at h3
  obtain ⟨F, ⟨vi, vo, okI, okO, hB, _⟩, _⟩ := Sep.out h3
  have hi1 := hi.1
  have ho1 := ho.1
  obtain ⟨A0, c0, rfl⟩ := Kd.R_slice hB.hi
  obtain ⟨A1, c1, rfl⟩ := Kd.R_slice hB.ho
  refine (next_at g s A0 _ c0 A1 _ c1 W hB.at_ (by omega) (by omega)).mono fun e w' ⟨he, hb⟩ => ⟨?_, h2.onto hb⟩
  rw [he]
  unfold nextD
  by_cases hc : s.t = false ∨ (ri.length + ro.length = 0 ∧ s.told = false ∧ s.k ≠ 4)
  · rw [if_pos hc, if_pos hc, if_pos hc]
  · rw [if_neg hc, if_neg hc, if_neg hc]
end Go.Proofs.Yteklabhmmfklbaa
