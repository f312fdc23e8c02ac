import Derived.Test.YtiabggpijomjmaaDoorPx0
import Derived.Test.YtiabggpijomjmaaDoorG
namespace Go.Proofs.YtiabggpijomjmaaDoor.Print
open Go.RowKit Go.Proofs.YtiabggpijomjmaaDoorW.PrintWords Go.Proofs.YtiabggpijomjmaaDoorW.PrintLast Go.Proofs.YtiabggpijomjmaaDoorW.PrintMore
theorem geqA53 (d : Nat) (w : World) (x0 y0 : Int) (x1 y1 : Int) (x2 y2 : ByteArray) :
    (Op.equalIn (d + 2) 53 (.agg #[.int .i64 x0, .int .i64 x1, .string x2]) (.agg #[.int .i64 y0, .int .i64 y1, .string y2])).run Tryd.prog w = .ok (x0 == y0 && (x1 == y1 && (x2.toList == y2.toList))) w := by
  refine eqA_of Tryd.underlying53 (by kernel_rfl) ?_
  refine eqf_cons (by rfl) (by go_simp; rfl) (by go_simp; rfl) (by go_simp) ?_
  refine eqf_cons (by rfl) (by go_simp; rfl) (by go_simp; rfl) (by go_simp) ?_
  exact eqf_last (by rfl) (by go_simp; rfl) (by go_simp; rfl) (by go_simp)
attribute [local go_sem high] geqA53
/-- May a value be? -/
def okV (k n : Int) (s : ByteArray) : Bool :=
  if k = 0 then decide (n = 0) && s.toList.isEmpty
  else if k = 1 then s.toList.isEmpty && (decide (n = 0) || decide (n = 1))
  else if k = 2 then s.toList.isEmpty
  else if k = 3 then s.toList.isEmpty
  else if k = 4 then decide (n = 0) && decide (s.size ≤ 1024) && Lib.validD s.data.toList
  else false
def value_Check.f (k n : Int) (s : ByteArray) : Option Int := some (if okV k n s = true then 0 else 1)
set_option maxHeartbeats 4000000 in
set_option maxRecDepth 100000 in
theorem value_Check.calls (k n : Int) (s : ByteArray) (r : Int) (w : World) (hld : LaidW w) (h : value_Check.f k n s = some r) :
    Calls Tryd.prog 24 #[.agg #[.int .i64 k, .int .i64 n, .string s]] w fun e w' => e = .returned (.int .i64 r) ∧ Below w.heap.size w w' := by
  have hu53 := Tryd.underlying53
  obtain rfl := (Option.some.inj h)
  clear h
  have HLD := Aside0.mk hld
  clear hld
  by_cases k4 : k = 4
  · subst k4
    by_cases hn : n = 0
    · by_cases hz : s.size ≤ 1024
      · have e : okV 4 n s = Lib.validD s.data.toList := by simp [okV, hn, hz]
        rw [e]; clear e
        have hv : utf8_ValidString.f s = some (Lib.validD s.data.toList) := by unfold utf8_ValidString.f; rw [if_pos (by omega)]
        have cV : ∀ w1, Below w.heap.size w w1 → Calls Tryd.prog 33 #[.string s] w1 fun e w' => e = .returned (.bool (Lib.validD s.data.toList)) ∧ Below w1.heap.size w1 w' := fun w1 hb => utf8_ValidString.calls s _ w1 (HLD.out.below hb) hv
        clear hv
        generalize Lib.validD s.data.toList = V at cV ⊢
        have CV := Aside0.mk cV
        clear cV
        have hn' : (n == 0) = true := by simpa using hn
        have hz' : decide ((s.size : Int) ≤ 1024) = true := by simp; omega
        clear hn
        cases V
        all_goals
          go_enter Tryd.func24, Tryd.ntmps24
          go_wp2_with (go_at_call 33; refine (CV.out _ (by repeat (first | exact Below.refl _ _ | apply below_alloc | apply pw_below_drewN | apply below_drew1))).mono ?_; rintro e w1 ⟨rfl, hb⟩)
          go_ret
          exact ⟨rfl, (below_alloc (Below.refl _ _) _).trans (hb.mono (by simp))⟩
      · have e : okV 4 n s = false := by simp [okV, hn, hz]
        rw [e]; clear e
        have hn' : (n == 0) = true := by simpa using hn
        have hz' : decide ((s.size : Int) ≤ 1024) = false := by simp; omega
        clear hn hz
        go_enter Tryd.func24, Tryd.ntmps24
        go_wp2
        go_ret
        exact ⟨rfl, by repeat (first | exact Below.refl _ _ | apply below_alloc | apply pw_below_drewN | apply below_drew1)⟩
    · have e : okV 4 n s = false := by simp [okV, hn]
      rw [e]; clear e
      have hn' : (n == 0) = false := by simpa using hn
      clear hn
      go_enter Tryd.func24, Tryd.ntmps24
      go_wp2
      go_ret
      exact ⟨rfl, by repeat (first | exact Below.refl _ _ | apply below_alloc | apply pw_below_drewN | apply below_drew1)⟩
  have k4b : (k == 4) = false := by simpa using k4
  obtain ⟨b, hb⟩ : ∃ b, s.toList.isEmpty = b := ⟨_, rfl⟩
  have hb2 : (s.toList == []) = b := by rw [← hb]; cases s.toList <;> rfl
  by_cases k0 : k = 0
  · subst k0
    obtain ⟨c, hc⟩ : ∃ c, (n == 0) = c := ⟨_, rfl⟩
    have e : okV 0 n s = (c && b) := by unfold okV; rw [if_pos rfl, hb, ← hc]; rfl
    rw [e]; clear e
    cases b <;> cases c
    all_goals
      go_enter Tryd.func24, Tryd.ntmps24
      go_wp2
      go_ret
      exact ⟨rfl, by repeat (first | exact Below.refl _ _ | apply below_alloc | apply pw_below_drewN | apply below_drew1)⟩
  have k0b : (k == 0) = false := by simpa using k0
  by_cases k1 : k = 1
  · subst k1
    obtain ⟨c, hc⟩ : ∃ c, (n == 0) = c := ⟨_, rfl⟩
    obtain ⟨d, hd⟩ : ∃ d, (n == 1) = d := ⟨_, rfl⟩
    have e : okV 1 n s = (b && (c || d)) := by unfold okV; rw [if_neg (by decide), if_pos rfl, hb, ← hc, ← hd]; rfl
    rw [e]; clear e
    cases b <;> cases c <;> cases d
    all_goals
      first
      | (exfalso; simp at hc hd; omega)
      | (go_enter Tryd.func24, Tryd.ntmps24
         go_wp2
         go_ret
         exact ⟨rfl, by repeat (first | exact Below.refl _ _ | apply below_alloc | apply pw_below_drewN | apply below_drew1)⟩)
  have k1b : (k == 1) = false := by simpa using k1
  by_cases k2 : k = 2
  · subst k2
    have e : okV 2 n s = b := by unfold okV; rw [if_neg (by decide), if_neg (by decide), if_pos rfl, hb]
    rw [e]; clear e
    cases b
    all_goals
      go_enter Tryd.func24, Tryd.ntmps24
      go_wp2
      go_ret
      exact ⟨rfl, by repeat (first | exact Below.refl _ _ | apply below_alloc | apply pw_below_drewN | apply below_drew1)⟩
  have k2b : (k == 2) = false := by simpa using k2
  by_cases k3 : k = 3
  · subst k3
    have e : okV 3 n s = b := by unfold okV; rw [if_neg (by decide), if_neg (by decide), if_neg (by decide), if_pos rfl, hb]
    rw [e]; clear e
    cases b
    all_goals
      go_enter Tryd.func24, Tryd.ntmps24
      go_wp2
      go_ret
      exact ⟨rfl, by repeat (first | exact Below.refl _ _ | apply below_alloc | apply pw_below_drewN | apply below_drew1)⟩
  have k3b : (k == 3) = false := by simpa using k3
  have e : okV k n s = false := by unfold okV; rw [if_neg k0, if_neg k1, if_neg k2, if_neg k3, if_neg k4]
  rw [e]; clear e k0 k1 k2 k3 k4 hb hb2
  go_enter Tryd.func24, Tryd.ntmps24
  go_wp2
  go_ret
  exact ⟨rfl, by repeat (first | exact Below.refl _ _ | apply below_alloc | apply pw_below_drewN | apply below_drew1)⟩
end Go.Proofs.YtiabggpijomjmaaDoor.Print
