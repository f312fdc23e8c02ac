import Derived.Test.YteklabhmmfklbaaMgE
import Derived.StillTailTactics
import Derived.BigRegion
import Derived.IntWalk
namespace Go.Proofs.Yteklabhmmfklbaa
open Go.RowKit Print Go.Proofs.YteklabhmmfklbaaW.PrintWords Go.Proofs.YteklabhmmfklbaaW.PrintLast Go.Proofs.YteklabhmmfklbaaW.PrintMore
attribute [local go_sem] max2_int min2_int max_two min_two
set_option linter.unusedVariables false
abbrev RowsL := List (List S68)
/-- Is nothing told at any border to come? -/
def nothing (s : St) (rin rout all : RowsL) : Prop := rin.length + rout.length = 0 ∧ s.told = false ∧ (s.k ≠ 4 ∨ all.length = 0)
instance (s : St) (rin rout all : RowsL) : Decidable (nothing s rin rout all) := by unfold nothing; infer_instance
/-- The borders up to the clock, one by one. -/
def advL : Nat → St → RowsL → RowsL → RowsL → List S43 → St × RowsL × RowsL × List S43
  | 0, s, rin, rout, _, acc => (s, rin, rout, acc)
  | f + 1, s, rin, rout, all, acc =>
    if s.clock < s.border then (s, rin, rout, acc)
    else if nothing s rin rout all then ({ s with border := s.border + ((s.clock - s.border) / s.n * s.n + s.n) }, rin, rout, acc)
    else advL f { s with told := false, border := s.border + s.n } [] [] all (acc ++ endD s.k s.border rin rout all)
def FU : Nat := 4002
def late : Int := 1152921504606846976
/-- Time goes on. -/
def adv (s : St) (rin rout : RowsL) (now : Int) (all : RowsL) : St × RowsL × RowsL × List S43 :=
  if now < s.clock then (s, rin, rout, [])
  else if s.t = true then advL FU { s with clock := mn now late } rin rout all []
  else ({ s with clock := mn now late }, rin, rout, [])
/-- What Advance leaves. -/
def AdvP (w : World) (g : Nat) (okS okI okO : Nat → Prop) (R : St × RowsL × RowsL × List S43) (e : Ending) (w' : World) : Prop :=
  ∃ v vi vo, ∃ okD okI' okO' : Nat → Prop, e = .returned v ∧ At 59 w' g R.1 vi vo ∧ kR.R 61 w' 0 okI' vi R.2.1 ∧ kR.R 61 w' 0 okO' vo R.2.2.1 ∧ k43.R 43 w' 0 okD v R.2.2.2 ∧ K3 w w' (fun k => k = g) ∧
    (∀ k, okI' k → okI k) ∧ (∀ k, okO' k → okO k) ∧ (∀ k, okD k → (okS k ∨ w.heap.size ≤ k) ∧ k < w'.heap.size ∧ ¬ okI' k ∧ ¬ okO' k)
set_option maxHeartbeats 1000000 in
set_option maxRecDepth 100000 in
theorem adv_nil (now : Int) (A : Option Addr) (n c : Nat) (w : World) : Calls Try.prog 11 #[.pointer none, .int .i64 now, .slice A n c] w fun e w' => e = .returned nilV ∧ w = w' := by
  go_enter Try.func11, Try.ntmps11
  go_wp2
  go_step3
  go_wp2
  rw [Exit.noGoto_ret]
  go_ret
  exact ⟨rfl, rfl⟩
set_option maxHeartbeats 1000000 in
set_option maxRecDepth 100000 in
theorem adv_late (g : Nat) (s : St) (vi vo : Value) (now : Int) (A : Option Addr) (n c : Nat) (w : World) (h : At 59 w g s vi vo) (hl : now < s.clock) :
    Calls Try.prog 11 #[.pointer (some ⟨g, 0, none⟩), .int .i64 now, .slice A n c] w fun e w' => e = .returned nilV ∧ w = w' := by
  obtain ⟨a0, a1, a2, a3, a4, a5, a6, a7, a8⟩ := h.cells
  clear h
  have hd : decide (now < s.clock) = true := decide_eq_true hl
  go_enter Try.func11, Try.ntmps11
  go_wp2
  go_step3
  go_wp2
  rw [Exit.noGoto_ret]
  go_ret
  exact ⟨rfl, rfl⟩
theorem mn_eq (a b : Int) : mn a b = if b < a then b else a := rfl
set_option maxHeartbeats 1000000 in
set_option maxRecDepth 100000 in
theorem adv_plain (g : Nat) (s : St) (vi vo : Value) (now : Int) (A : Option Addr) (n c : Nat) (w : World) (h : At 59 w g s vi vo) (hl : ¬ now < s.clock) (ht : s.t = false) :
    Calls Try.prog 11 #[.pointer (some ⟨g, 0, none⟩), .int .i64 now, .slice A n c] w fun e w' => e = .returned nilV ∧ At 59 w' g { s with clock := mn now late } vi vo ∧ K3 w w' (fun k => k = g) := by
  have HA := Aside0.mk h
  obtain ⟨a0, a1, a2, a3, a4, a5, a6, a7, a8⟩ := h.cells
  have f3 := h.frozen 3
  clear h
  obtain ⟨k, n', t, clock, border, events, told⟩ := s
  simp only at ht hl
  subst ht
  have hd : decide (now < clock) = false := decide_eq_false hl
  obtain ⟨m, hm⟩ : ∃ m, mn now late = m := ⟨_, rfl⟩
  have hm' : (if 1152921504606846976 < now then 1152921504606846976 else now) = m := hm
  rw [hm]
  have HM := Aside0.mk hm
  clear hm hl
  go_enter Try.func11, Try.ntmps11
  go_wp2
  go_step3
  go_wp2
  go_step3
  go_wp2
  refine wp_loop_rounds 1 ?_
  rw [rounds_succ]
  go_wp2
  rw [Exit.noGoto_ret]
  go_ret
  exact ⟨rfl, by simpa [At, cellsP] using blk_set HA.out 3 (.int .i64 m), (K3.refl w (fun k => k = g)).setCell (p := ⟨g, 3, none⟩) (.inl rfl) (.int .i64 m)⟩
theorem At.set_clock {ty : Nat} {w : World} {g : Nat} {s : St} {vi vo : Value} (h : At ty w g s vi vo) (x : Int) : At ty (w.setCell ⟨g, 3, none⟩ (.int .i64 x)) g { s with clock := x } vi vo := by
  simpa [At, cellsP] using blk_set h 3 (.int .i64 x)
theorem At.set_border {ty : Nat} {w : World} {g : Nat} {s : St} {vi vo : Value} (h : At ty w g s vi vo) (x : Int) : At ty (w.setCell ⟨g, 4, none⟩ (.int .i64 x)) g { s with border := x } vi vo := by
  simpa [At, cellsP] using blk_set h 4 (.int .i64 x)
theorem info43 : (Try.prog.info? 43).map (fun i => (i.zero, i.size, i.bytes)) = some (some (.agg #[.int .i64 0, .slice none 0 0, .slice none 0 0]), 3, 56) := by kernel_rfl
theorem endD_le (k at_ : Int) (ri ro all : RowsL) : (endD k at_ ri ro all).length ≤ 1 := by
  unfold endD
  repeat' split
  all_goals simp
theorem loop_ds {w wr w1 w2 : World} {g : Nat} {okS : Nat → Prop} {v : Value} {ds : List S43} (h : k43.R 43 wr 0 (fun k => okS k ∨ w.heap.size ≤ k) v ds) (hb : Below wr.heap.size wr w1) (hk : K3 w1 w2 (fun k => k = g)) (hg : ¬ okS g) (hlt : g < w.heap.size) :
    k43.R 43 w2 0 (fun k => okS k ∨ w.heap.size ≤ k) v ds :=
  K3.R (Kd.R_below h hb) hk (fun k hk e => hk.elim (fun h => hg (e ▸ h)) (fun h => by omega))
theorem loop_ok {w wr w1 : World} {g : Nat} {okS ok : Nat → Prop} {v : Value} {ds : List S43} (h : k43.R 43 wr 0 ok v ds) (hv : ∀ b, v.ownBlock = some b → w.heap.size ≤ b) (hb : ∀ k, okS k → k < w.heap.size) (hb1 : Below wr.heap.size wr w1) (hK : K3 w wr (fun k => k = g)) :
    ∀ k, (okS k ∨ w1.heap.size ≤ k) → (okS k ∨ w.heap.size ≤ k) ∧ some k ≠ v.ownBlock := by
  intro k hk
  have hs := Nat.le_trans hK.1 hb1.size
  obtain ⟨inner, ho⟩ := Kd.R_own h
  rcases hk with hk | hk
  · exact ⟨.inl hk, fun e => by have := hb k hk; have := hv k e.symm; omega⟩
  · exact ⟨.inr (Nat.le_trans hs hk), fun e => by have := own_lt ho k e.symm; have := hb1.size; omega⟩
theorem loop_at {ty : Nat} {w w2 w3 : World} {g : Nat} {s : St} {vi vo v : Value} (h : At ty w2 g s vi vo) (hg : w2.grownBy w3 v.ownBlock) (hv : ∀ b, v.ownBlock = some b → w.heap.size ≤ b) (hlt : g < w.heap.size) : At ty w3 g s vi vo :=
  (hg.block g h.lt (fun e => by have := hv g e.symm; omega)).trans h
theorem loop_room {a b c : Nat} (h : a + (b + 1) ≤ FU) (h1 : c ≤ 1) : (a + c) * 56 ≤ 140737488355328 := by
  unfold FU at h
  omega
/-- The state at a round's head. -/
def LoopI (w : World) (g : Nat) (okS okI okO : Nat → Prop) (k n clock ev : Int) (all : RowsL) (R : St × RowsL × RowsL × List S43) (kq : Nat) (v : Value) (wr : World) : Prop :=
  ∃ (bd : Int) (td : Bool) (ri ro : RowsL) (vi vo : Value) (ds : List S43), At 59 wr g ⟨k, n, true, clock, bd, ev, td⟩ vi vo ∧ kR.R 61 wr 0 okI vi ri ∧ kR.R 61 wr 0 okO vo ro ∧ k43.R 43 wr 0 (fun k => okS k ∨ w.heap.size ≤ k) v ds ∧
    (∀ b, v.ownBlock = some b → w.heap.size ≤ b) ∧ K3 w wr (fun k => k = g) ∧ advL kq ⟨k, n, true, clock, bd, ev, td⟩ ri ro all ds = R ∧ clock + 1 - bd ≤ kq * n ∧ Sm ri ∧ Sm ro ∧ bd ≤ clock + n ∧ 0 ≤ bd ∧ ds.length + kq ≤ FU ∧ (ds = [] ∨ (vi = nilV ∧ vo = nilV ∧ ri = [] ∧ ro = []))
theorem adv_done {w wr : World} {g : Nat} {okS okI okO : Nat → Prop} {s : St} {vi vo v : Value} {ri ro : RowsL} {ds : List S43} (hA : At 59 wr g s vi vo) (hri : kR.R 61 wr 0 okI vi ri) (hro : kR.R 61 wr 0 okO vo ro) (hIS : ∀ k, okI k → okS k) (hOS : ∀ k, okO k → okS k)
    (hds : k43.R 43 wr 0 (fun k => okS k ∨ w.heap.size ≤ k) v ds) (hv : ∀ b, v.ownBlock = some b → w.heap.size ≤ b) (hK : K3 w wr (fun k => k = g)) (hdr : ds = [] ∨ (vi = nilV ∧ vo = nilV ∧ ri = [] ∧ ro = [])) (hb : ∀ k, okS k → k < w.heap.size) :
    AdvP w g okS okI okO (s, ri, ro, ds) (.returned v) wr := by
  rcases hdr with rfl | ⟨rfl, rfl, rfl, rfl⟩
  · obtain ⟨h0, inner, hown, hr⟩ := hds
    refine ⟨v, vi, vo, fun k => w.heap.size ≤ k ∧ k < wr.heap.size, okI, okO, rfl, hA, hri, hro, ⟨fun k hk => ⟨hv k hk, own_lt hown k hk⟩, inner, hown, ⟨hr.1, fun j p hj => by simp at hj⟩⟩, hK, fun _ hk => hk, fun _ hk => hk, fun k hk => ⟨.inr hk.1, hk.2, fun h => by have := hb k (hIS k h); have := hk.1; omega, fun h => by have := hb k (hOS k h); have := hk.1; omega⟩⟩
  · exact ⟨v, nilV, nilV, _, fun _ => False, fun _ => False, rfl, hA, Kd.R_nil _ _ _ _ _, Kd.R_nil _ _ _ _ _, Kd.R_bound hds, hK, fun _ hk => hk.elim, fun _ hk => hk.elim, fun k hk => ⟨hk.1, hk.2.2.1, fun h => h, fun h => h⟩⟩
theorem loop_fuel {m bd n : Int} {gk : Nat} (h : m + 1 - bd ≤ ((gk + 1 : Nat) : Int) * n) : m + 1 - (bd + n) ≤ (gk : Int) * n := by
  rw [Int.natCast_add, Int.add_mul] at h
  omega
theorem loop_next {w wr w1 w2 w3 : World} {g : Nat} {okS okI okO : Nat → Prop} {k n m ev bd : Int} {all ri ro : RowsL} {R : St × RowsL × RowsL × List S43} {gk : Nat} {v v3 : Value} {ds : List S43} (hg : ¬ okS g) (hlt : g < w.heap.size) (hR : advL gk ⟨k, n, true, m, bd + n, ev, false⟩ [] [] all (ds ++ endD k bd ri ro all) = R)
    (h1 : (∀ b, v.ownBlock = some b → w.heap.size ≤ b) ∧ K3 w wr (fun k => k = g) ∧ ds.length + (gk + 1) ≤ FU ∧ m + 1 - bd ≤ ((gk + 1 : Nat) : Int) * n) (hb1 : Below wr.heap.size wr w1) (hk2 : K3 w1 w2 (fun k => k = g)) (h3 : At 59 w3 g ⟨k, n, true, m, bd, ev, false⟩ nilV nilV)
    (ho : k43.R 43 w3 0 (fun k => okS k ∨ w.heap.size ≤ k) v3 (ds ++ endD k bd ri ro all)) (hg3 : w2.grownBy w3 v.ownBlock) (hat : v3.ownBlock = v.ownBlock ∨ ∃ b, v3.ownBlock = some b ∧ w2.heap.size ≤ b) (hbd : bd ≤ m) (hbd0 : 0 ≤ bd) (hn : 1 ≤ n) :
    LoopI w g okS okI okO k n m ev all R gk v3 (w3.drew.setCell ⟨g, 4, none⟩ (.int .i64 (bd + n))) := by
  obtain ⟨hv, hK, hdl, hfu⟩ := h1
  have hK2 : K3 w w2 (fun k => k = g) := (hK.below hb1).then_ hk2 (fun _ h => .inl h)
  have hK3 : K3 w w3 (fun k => k = g) := K3.of_grown hg3 hK2 (fun k hk => .inr (hv k hk))
  have ng : ∀ k, (okS k ∨ w.heap.size ≤ k) → k ≠ g := fun k hk => hk.elim (fun h e => hg (e ▸ h)) (fun h e => by omega)
  refine ⟨bd + n, false, [], [], nilV, nilV, ds ++ endD k bd ri ro all, At.set_border (w := w3.drew) h3 (bd + n), Kd.R_nil _ _ _ _ _, Kd.R_nil _ _ _ _ _, Kd.R_far (Kd.R_below ho (pw_below_drewN (Below.refl w3.heap.size w3) 1)) (p := ⟨g, 4, none⟩) ng _, fun b hb => ?_, (hK3.drew).setCell (p := ⟨g, 4, none⟩) (.inl rfl) _, hR, loop_fuel hfu, Sm.nil, Sm.nil, by omega, by omega, ?_, .inr ⟨rfl, rfl, rfl, rfl⟩⟩
  · rcases hat with hat | ⟨b', hb', hle⟩
    · exact hv b (hat ▸ hb)
    · rw [hb'] at hb
      injection hb with hb
      have := hK2.1
      omega
  · rw [List.length_append]
    have := endD_le k bd ri ro all
    omega
set_option maxHeartbeats 4000000 in
set_option maxRecDepth 100000 in
theorem adv_timed (g : Nat) (s : St) (vi vo : Value) (rin rout : RowsL) (okS okI okO : Nat → Prop) (now : Int) (A : Option Addr) (c : Nat) (all : RowsL) (w : World) (hk : s.k = 1 ∨ s.k = 2 ∨ s.k = 3 ∨ s.k = 4)
    (h : At 59 w g s vi vo) (hi : kR.R 61 w 0 okI vi rin) (ho : kR.R 61 w 0 okO vo rout) (hIS : ∀ k, okI k → okS k) (hOS : ∀ k, okO k → okS k) (hg : ¬ okS g) (hb : ∀ k, okS k → k < w.heap.size) (hsi : Sm rin) (hso : Sm rout) (okA : Nat → Prop) (ha : Kd.F kR w okA A all.length all) (hag : ¬ okA g) (hc : all.length ≤ c) (hs : Sm all)
    (ht : s.t = true) (hl : ¬ now < s.clock) (hc0 : 0 ≤ s.clock) (hn : 1 ≤ s.n) (hn2 : s.n ≤ 1099511627776) (hbd : 0 ≤ s.border) (hbd2 : s.border ≤ s.clock + s.n) (hcl : s.clock ≤ late) (hmany : mn now late + 1 - s.border ≤ 4002 * s.n) :
    Calls Try.prog 11 #[.pointer (some ⟨g, 0, none⟩), .int .i64 now, .slice A all.length c] w (AdvP w g okS okI okO (adv s rin rout now all)) := by
  have HA := Aside0.mk h
  obtain ⟨a0, a1, a2, a3, a4, a5, a6, a7, a8⟩ := h.cells
  have f3 := h.frozen 3
  have hlt := h.lt
  clear h
  obtain ⟨k, n, t, clock, border, events, told⟩ := s
  simp only at ht hl hk hn hn2 hbd hbd2 hcl hmany hc0
  subst ht
  have hd' : decide (now < clock) = false := decide_eq_false hl
  obtain ⟨m, hm⟩ : ∃ m, mn now late = m := ⟨_, rfl⟩
  have hm' : (if 1152921504606846976 < now then 1152921504606846976 else now) = m := hm
  have hR : adv ⟨k, n, true, clock, border, events, told⟩ rin rout now all = advL FU ⟨k, n, true, m, border, events, told⟩ rin rout all [] := by
    unfold adv; rw [if_neg hl, if_pos rfl, hm]
  rw [hR]
  rw [hm] at hmany
  have hmc : clock ≤ m ∧ m ≤ 1152921504606846976 := by
    have : m = if late < now then late else now := hm.symm
    unfold late at this hcl
    split at this <;> omega
  have HI0 : LoopI w g okS okI okO k n m events all (advL FU ⟨k, n, true, m, border, events, told⟩ rin rout all []) FU nilV (w.setCell ⟨g, 3, none⟩ (.int .i64 m)) :=
    ⟨border, told, rin, rout, vi, vo, [], HA.out.set_clock m, Kd.R_far hi (p := ⟨g, 3, none⟩) (fun k hk (e : k = g) => hg (e ▸ hIS k hk)) _, Kd.R_far ho (p := ⟨g, 3, none⟩) (fun k hk (e : k = g) => hg (e ▸ hOS k hk)) _, Kd.R_nil _ _ _ _ _, fun b hb => by simp [Value.ownBlock] at hb,
      (K3.refl w (fun k => k = g)).setCell (p := ⟨g, 3, none⟩) (.inl rfl) _, rfl, by unfold FU; omega, hsi, hso, by omega, by omega, by simp, .inl rfl⟩
  obtain ⟨R, hRR⟩ : ∃ R, advL FU ⟨k, n, true, m, border, events, told⟩ rin rout all [] = R := ⟨_, rfl⟩
  rw [hRR] at HI0 ⊢
  have HI := Aside0.mk HI0
  have HLT := Aside0.mk hlt
  have HALL := Aside0.mk ha
  have HK := Aside0.mk hk
  have HB := Aside0.mk hb
  have HM := Aside0.mk hmc
  have HN := Aside0.mk (And.intro hn hn2)
  clear HI0 hm hR hRR hi ho hb hsi hso ha hk hl hmany hbd hbd2 hcl hc0 hmc hlt
  go_enter Try.func11, Try.ntmps11
  go_wp2
  go_step3
  go_wp2
  go_step3
  go_wp2
  clear hm' hd' a0 a1 a2 a3 a4 a5 a6 a7 a8 f3
  go_loopg [7] FU (fun kq v wr => Aside0 (LoopI w g okS okI okO k n m events all R kq v wr))
  case atStart => exact HI
  case round =>
    clear HI
    obtain ⟨bd, td, ri, ro, vi', vo', ds, hA, hri, hro, hds, hv, hK, hadv, hfu, hsi, hso, hbd, hbd0, hdl, hdr⟩ := hrel.out
    clear hrel
    obtain ⟨a0, a1, a2, a3, a4, a5, a6, a7, a8⟩ := hA.cells
    have f4 := hA.frozen 4
    have HA := Aside0.mk hA
    by_cases cb : m < bd
    · have e1 : decide (m < bd) = true := decide_eq_true cb
      have HR : Aside0 (R = (⟨k, n, true, m, bd, events, td⟩, ri, ro, ds)) := ⟨by
        rw [← hadv]
        cases gk with
        | zero => rfl
        | succ gk => unfold advL; rw [if_pos cb]⟩
      have H1 := Aside0.mk (And.intro hri (And.intro hro (And.intro hds (And.intro hv (And.intro hK hdr)))))
      clear hA hri hro hds hv hK hadv hfu hsi hso hbd hbd0 hdl hdr cb
      go_wp2
      go_quiet (fail)
      go_wp2
      rw [Exit.noGoto_ret]
      go_ret
      obtain ⟨hri, hro, hds, hv, hK, hdr⟩ := H1.out
      rw [HR.out]
      have bl := pw_below_drewN (Below.refl wr.heap.size wr) nq
      exact adv_done HA.out (Kd.R_below hri bl) (Kd.R_below hro bl) hIS hOS (Kd.R_below hds bl) hv (hK.drewN nq) hdr HB.out
    · have e1 : decide (m < bd) = false := decide_eq_false cb
      obtain ⟨gk, rfl⟩ : ∃ j, gk = j + 1 := ⟨gk - 1, by
        rcases gk with _ | gk
        · exfalso; simp at hfu; omega
        · rfl⟩
      obtain ⟨A0, c0, rfl⟩ := Kd.R_slice hri
      obtain ⟨A1, c1, rfl⟩ := Kd.R_slice hro
      have hno : nothing ⟨k, n, true, m, bd, events, td⟩ ri ro all ↔ (ri.length + ro.length = 0 ∧ td = false ∧ (k ≠ 4 ∨ all.length = 0)) := Iff.rfl
      by_cases hN : ri.length + ro.length = 0 ∧ td = false ∧ (k ≠ 4 ∨ all.length = 0)
      · have HR : Aside0 (R = (⟨k, n, true, m, bd + ((m - bd) / n * n + n), events, td⟩, ri, ro, ds)) := ⟨by
          rw [← hadv]
          unfold advL
          rw [if_neg cb, if_pos (hno.2 hN)]⟩
        obtain ⟨hz, rfl, hka⟩ := hN
        have HSM := Aside0.mk (fun W => some_any A0 ri.length c0 A1 ro.length c1 false W (by omega) (by omega) (decide_eq_false (by omega)))
        have H1 := Aside0.mk (And.intro hri (And.intro hro (And.intro hds (And.intro hv (And.intro hK hdr)))))
        have hq0 : 0 ≤ (m - bd) / n * n := Int.mul_nonneg (Int.ediv_nonneg (by omega) (by omega)) (by omega)
        have hq1 : (m - bd) / n * n ≤ m - bd := Int.ediv_mul_le _ (by omega)
        have hmm := HM.out
        have hnn := HN.out
        have hqq : (0 : Int) ≤ (m - bd) / n ∧ (m - bd) / n ≤ m - bd := ⟨Int.ediv_nonneg (by omega) (by omega), Int.ediv_le_self _ (by omega)⟩
        clear hA hri hro hds hv hK hadv hfu hsi hso hdl hdr hno
        have bd1 : bd ≤ m := by omega
        have hka2 : k ≠ 4 ∨ (k = 4 ∧ all.length = 0) := by omega
        rcases hka2 with k4 | ⟨rfl, hz2⟩
        · have e4 : (k != 4) = true := by simpa using k4
          clear k4 hka hz cb
          go_wp2
          go_quiet (fail)
          go_wp2_with (first | (go_at_call 28; (with_reducible refine (HSM.out _).mono ?_); rintro e w1 ⟨rfl, hb⟩; have hA1 : At 59 w1 g _ _ _ := At.below (w := wr.drewN nq) HA.out hb; obtain ⟨d0, d1, d2, d3, d4, d5, d6, d7, d8⟩ := hA1.cells; have q4 := hA1.frozen 4; have HA1 := Aside0.mk hA1; have HB1 := Aside0.mk hb; clear hb hA1 a0 a1 a2 a3 a4 a5 a6 a7 a8 f4))
          obtain ⟨d, hd⟩ : ∃ d, m - bd = d := ⟨_, rfl⟩
          obtain ⟨q, hq⟩ : ∃ q, Int.tdiv d n = q := ⟨_, rfl⟩
          obtain ⟨p, hp⟩ : ∃ p, q * n = p := ⟨_, rfl⟩
          have hqe : (m - bd) / n = q := by rw [← hq, ← hd, Int.tdiv_eq_ediv_of_nonneg (by omega)]
          rw [hqe] at hqq hq0 hq1
          rw [hp] at hq0 hq1
          rw [hd] at hqq hq1
          have HVV : Aside0 (bd + ((m - bd) / n * n + n) = bd + (p + n)) := ⟨by rw [hqe, hp]⟩
          have x1 : IntKind.i64.wrap d = d := IntWalk.i64_in _ (by omega)
          have x2 : IntKind.i64.wrap q = q := IntWalk.i64_in _ (by omega)
          have x3 : IntKind.i64.wrap p = p := IntWalk.i64_in _ (by omega)
          have x4 : IntKind.i64.wrap (p + n) = p + n := IntWalk.i64_in _ (by omega)
          have x5 : IntKind.i64.wrap (bd + (p + n)) = bd + (p + n) := IntWalk.i64_in _ (by omega)
          have x6 : (n == 0) = false := by simp; omega
          have x7 : (n = 0) = False := by simp; omega
          clear hqe hqq hq0 hq1
          go_still_tail 34, (by kernel_rfl)
          change wpList _ _ _ _ _ w1.drew
          clear x1 x2 x3 x4 x5 x6 x7 hp hq hd
          go_wp2
          rw [Exit.noGoto_ret]
          go_ret
          obtain ⟨hri, hro, hds, hv, hK, hdr⟩ := H1.out
          rw [HR.out, HVV.out]
          have bl := (pw_below_drewN (Below.refl wr.heap.size wr) nq).trans HB1.out
          have ng : ∀ k, okS k → k ≠ g := fun k hk e => hg (e ▸ hk)
          have ngI : ∀ k, okI k → k ≠ g := fun k hk => ng k (hIS k hk)
          have ngO : ∀ k, okO k → k ≠ g := fun k hk => ng k (hOS k hk)
          have ng2 : ∀ k, (okS k ∨ w.heap.size ≤ k) → k ≠ g := fun k hk => hk.elim (ng k) (fun h e => by have := HLT.out; omega)
          exact adv_done (At.set_border (w := w1.drew) HA1.out (bd + (p + n))) (Kd.R_far (Kd.R_below hri bl) (p := ⟨g, 4, none⟩) ngI _) (Kd.R_far (Kd.R_below hro bl) (p := ⟨g, 4, none⟩) ngO _) hIS hOS (Kd.R_far (Kd.R_below hds bl) (p := ⟨g, 4, none⟩) ng2 _) hv ((hK.below bl).drew.setCell (p := ⟨g, 4, none⟩) (.inl rfl) _) hdr HB.out
        · have e5 : ((all.length : Int) == 0) = true := by simpa using hz2
          clear hz2 hka hz cb
          go_wp2
          go_quiet (fail)
          go_wp2_with (first | (go_at_call 28; (with_reducible refine (HSM.out _).mono ?_); rintro e w1 ⟨rfl, hb⟩; have hA1 : At 59 w1 g _ _ _ := At.below (w := wr.drewN nq) HA.out hb; obtain ⟨d0, d1, d2, d3, d4, d5, d6, d7, d8⟩ := hA1.cells; have q4 := hA1.frozen 4; have HA1 := Aside0.mk hA1; have HB1 := Aside0.mk hb; clear hb hA1 a0 a1 a2 a3 a4 a5 a6 a7 a8 f4))
          obtain ⟨d, hd⟩ : ∃ d, m - bd = d := ⟨_, rfl⟩
          obtain ⟨q, hq⟩ : ∃ q, Int.tdiv d n = q := ⟨_, rfl⟩
          obtain ⟨p, hp⟩ : ∃ p, q * n = p := ⟨_, rfl⟩
          have hqe : (m - bd) / n = q := by rw [← hq, ← hd, Int.tdiv_eq_ediv_of_nonneg (by omega)]
          rw [hqe] at hqq hq0 hq1
          rw [hp] at hq0 hq1
          rw [hd] at hqq hq1
          have HVV : Aside0 (bd + ((m - bd) / n * n + n) = bd + (p + n)) := ⟨by rw [hqe, hp]⟩
          have x1 : IntKind.i64.wrap d = d := IntWalk.i64_in _ (by omega)
          have x2 : IntKind.i64.wrap q = q := IntWalk.i64_in _ (by omega)
          have x3 : IntKind.i64.wrap p = p := IntWalk.i64_in _ (by omega)
          have x4 : IntKind.i64.wrap (p + n) = p + n := IntWalk.i64_in _ (by omega)
          have x5 : IntKind.i64.wrap (bd + (p + n)) = bd + (p + n) := IntWalk.i64_in _ (by omega)
          have x6 : (n == 0) = false := by simp; omega
          have x7 : (n = 0) = False := by simp; omega
          clear hqe hqq hq0 hq1
          go_still_tail 34, (by kernel_rfl)
          change wpList _ _ _ _ _ w1.drew
          clear x1 x2 x3 x4 x5 x6 x7 hp hq hd
          go_wp2
          rw [Exit.noGoto_ret]
          go_ret
          obtain ⟨hri, hro, hds, hv, hK, hdr⟩ := H1.out
          rw [HR.out, HVV.out]
          have bl := (pw_below_drewN (Below.refl wr.heap.size wr) nq).trans HB1.out
          have ng : ∀ k, okS k → k ≠ g := fun k hk e => hg (e ▸ hk)
          have ngI : ∀ k, okI k → k ≠ g := fun k hk => ng k (hIS k hk)
          have ngO : ∀ k, okO k → k ≠ g := fun k hk => ng k (hOS k hk)
          have ng2 : ∀ k, (okS k ∨ w.heap.size ≤ k) → k ≠ g := fun k hk => hk.elim (ng k) (fun h e => by have := HLT.out; omega)
          exact adv_done (At.set_border (w := w1.drew) HA1.out (bd + (p + n))) (Kd.R_far (Kd.R_below hri bl) (p := ⟨g, 4, none⟩) ngI _) (Kd.R_far (Kd.R_below hro bl) (p := ⟨g, 4, none⟩) ngO _) hIS hOS (Kd.R_far (Kd.R_below hds bl) (p := ⟨g, 4, none⟩) ng2 _) hv ((hK.below bl).drew.setCell (p := ⟨g, 4, none⟩) (.inl rfl) _) hdr HB.out
      · have HR : Aside0 (advL gk ⟨k, n, true, m, bd + n, events, false⟩ [] [] all (ds ++ endD k bd ri ro all) = R) := ⟨by
          rw [← hadv]
          conv => rhs; unfold advL
          rw [if_neg cb, if_neg (fun h => hN (hno.1 h))]⟩
        have H1 := Aside0.mk (And.intro hv (And.intro hK (And.intro hdl hfu)))
        have HRI := Aside0.mk hri
        have HRO := Aside0.mk hro
        have HDS := Aside0.mk hds
        have HSI := Aside0.mk hsi
        have HSO := Aside0.mk hso
        have HAF := Aside0.mk (K3.F HALL.out hK (fun k hk (e : k = g) => hag (e ▸ hk)))
        have hmm := HM.out
        have hnn := HN.out
        have bd1 : bd ≤ m := by omega
        have lsi := hsi.1
        have lso := hso.1
        obtain ⟨sb, hsb⟩ : ∃ sb, decide (0 < ri.length + ro.length) = sb := ⟨_, rfl⟩
        have HSM := Aside0.mk (fun W => some_any A0 ri.length c0 A1 ro.length c1 sb W (by omega) (by omega) hsb)
        have hcase : sb = true ∨ (sb = false ∧ td = true) ∨ (sb = false ∧ td = false ∧ k = 4 ∧ 0 < all.length) := by
          by_cases z : 0 < ri.length + ro.length
          · left; rw [← hsb, decide_eq_true z]
          · have hs0 : sb = false := by rw [← hsb, decide_eq_false z]
            right
            cases htd : td
            · right
              refine ⟨hs0, rfl, ?_, ?_⟩
              · exact Classical.byContradiction fun h => hN ⟨by omega, htd, .inl h⟩
              · exact Classical.byContradiction fun h => hN ⟨by omega, htd, .inr (by omega)⟩
            · left; exact ⟨hs0, rfl⟩
        clear hA hri hro hds hv hK hadv hfu hdl hdr hno hN cb hsb hsi hso lsi lso
        have y1 : IntKind.i64.wrap (bd + n) = bd + n := IntWalk.i64_in _ (by omega)
        have HY := Aside0.mk y1
        clear y1
        have HEND := Aside0.mk (fun W (hW : Below wr.heap.size wr W) => end_any g ⟨k, n, true, m, bd, events, td⟩ bd (.slice A0 ri.length c0) (.slice A1 ro.length c1) ri ro okS A c all W HK.out (At.below HA.out hW) (Kd.R_mono (Kd.R_below HRI.out hW) hIS) (Kd.R_mono (Kd.R_below HRO.out hW) hOS) hg HSI.out HSO.out (Kd.F_now (Kd.F_below HAF.out hW)) hc hs)
        rcases hcase with rfl | ⟨rfl, rfl⟩ | ⟨rfl, rfl, hk4, hal⟩
        · go_wp2
          go_quiet (fail)
          go_wp2_with (first | (go_at_call 28; (with_reducible refine (HSM.out _).mono ?_); rintro e w1 ⟨rfl, hb⟩; have hA1 : At 59 w1 g _ _ _ := At.below (w := wr.drewN nq) HA.out hb; obtain ⟨d0, d1, d2, d3, d4, d5, d6, d7, d8⟩ := hA1.cells; have q4 := hA1.frozen 4; have HA1 := Aside0.mk hA1; have HB1 := Aside0.mk ((pw_below_drewN (Below.refl wr.heap.size wr) nq).trans hb); clear hb hA1 a0 a1 a2 a3 a4 a5 a6 a7 a8 f4) | (go_at_call 30; (with_reducible refine (HEND.out _ HB1.out).mono ?_); rintro e w2 ⟨v2, rfl, ⟨A2, c2, rfl, hl2, hr2⟩, hT2, hK2⟩; have HR2 := Aside0.mk hr2; have HT2 := Aside0.mk hT2; have HK2 := Aside0.mk hK2; clear hr2 hT2 hK2 hl2 d0 d1 d2 d3 d4 d5 d6 d7 d8 q4) | ((with_reducible refine gate_builtin (b := .append) (xs := #[.tmp 97, .tmp 104]) rfl ?_); at_builtin; refine Kd.R_append_rows k43 (w0 := w2) 0 rfl (.tmp 97) (.tmp 104) 35 43 (.agg #[.int .i64 0, .slice none 0 0, .slice none 0 0]) 56 rfl Try.underlying35 info43 rfl (by decide) (by omega) u7 ds (endD k bd ri ro all) _ _ _ (fun k => okS k ∨ w.heap.size ≤ k) (fun k => okS k ∨ w1.heap.size ≤ k) rfl rfl ?aO ?aR (fun _ _ h => h) ?aK ?aF ?aB ?aS ?aL ?_; (case aO => exact (loop_ds HDS.out HB1.out HK2.out hg HLT.out)); (case aR => exact HR2.out); (case aK => exact loop_ok HDS.out H1.out.1 HB.out HB1.out H1.out.2.1); (case aF => exact fun k hk => .inr (Nat.le_trans (Nat.le_trans H1.out.2.1.1 (Nat.le_trans HB1.out.size HK2.out.1)) hk)); (case aB => exact Below.refl _ _); (case aS => exact Nat.zero_le _); (case aL => exact loop_room H1.out.2.2.1 (endD_le k bd ri ro all)); intro v3 w3 ho hb3 hg3 hat3; have HO3 := Aside0.mk ho; have HG3 := Aside0.mk hg3; have HAT3 := Aside0.mk hat3; have hA3 : At 59 w3 g _ _ _ := loop_at HT2.out hg3 H1.out.1 HLT.out; obtain ⟨d0, d1, d2, d3, d4, d5, d6, d7, d8⟩ := hA3.cells; have q4 := hA3.frozen 4; have HA3 := Aside0.mk hA3; clear ho hb3 hg3 hat3 hA3))
          have y1 := HY.out
          go_still_tail 12, (by kernel_rfl)
          change wpList _ _ _ _ _ w3.drew
          clear y1
          go_wp2
          go_roundg gk
          case measure => omega
          case rel => exact ⟨loop_next hg HLT.out HR.out H1.out HB1.out HK2.out HA3.out HO3.out HG3.out HAT3.out bd1 hbd0 hn⟩
        · go_wp2
          go_quiet (fail)
          go_wp2_with (first | (go_at_call 28; (with_reducible refine (HSM.out _).mono ?_); rintro e w1 ⟨rfl, hb⟩; have hA1 : At 59 w1 g _ _ _ := At.below (w := wr.drewN nq) HA.out hb; obtain ⟨d0, d1, d2, d3, d4, d5, d6, d7, d8⟩ := hA1.cells; have q4 := hA1.frozen 4; have HA1 := Aside0.mk hA1; have HB1 := Aside0.mk ((pw_below_drewN (Below.refl wr.heap.size wr) nq).trans hb); clear hb hA1 a0 a1 a2 a3 a4 a5 a6 a7 a8 f4) | (go_at_call 30; (with_reducible refine (HEND.out _ HB1.out).mono ?_); rintro e w2 ⟨v2, rfl, ⟨A2, c2, rfl, hl2, hr2⟩, hT2, hK2⟩; have HR2 := Aside0.mk hr2; have HT2 := Aside0.mk hT2; have HK2 := Aside0.mk hK2; clear hr2 hT2 hK2 hl2 d0 d1 d2 d3 d4 d5 d6 d7 d8 q4) | ((with_reducible refine gate_builtin (b := .append) (xs := #[.tmp 97, .tmp 104]) rfl ?_); at_builtin; refine Kd.R_append_rows k43 (w0 := w2) 0 rfl (.tmp 97) (.tmp 104) 35 43 (.agg #[.int .i64 0, .slice none 0 0, .slice none 0 0]) 56 rfl Try.underlying35 info43 rfl (by decide) (by omega) u7 ds (endD k bd ri ro all) _ _ _ (fun k => okS k ∨ w.heap.size ≤ k) (fun k => okS k ∨ w1.heap.size ≤ k) rfl rfl ?aO ?aR (fun _ _ h => h) ?aK ?aF ?aB ?aS ?aL ?_; (case aO => exact (loop_ds HDS.out HB1.out HK2.out hg HLT.out)); (case aR => exact HR2.out); (case aK => exact loop_ok HDS.out H1.out.1 HB.out HB1.out H1.out.2.1); (case aF => exact fun k hk => .inr (Nat.le_trans (Nat.le_trans H1.out.2.1.1 (Nat.le_trans HB1.out.size HK2.out.1)) hk)); (case aB => exact Below.refl _ _); (case aS => exact Nat.zero_le _); (case aL => exact loop_room H1.out.2.2.1 (endD_le k bd ri ro all)); intro v3 w3 ho hb3 hg3 hat3; have HO3 := Aside0.mk ho; have HG3 := Aside0.mk hg3; have HAT3 := Aside0.mk hat3; have hA3 : At 59 w3 g _ _ _ := loop_at HT2.out hg3 H1.out.1 HLT.out; obtain ⟨d0, d1, d2, d3, d4, d5, d6, d7, d8⟩ := hA3.cells; have q4 := hA3.frozen 4; have HA3 := Aside0.mk hA3; clear ho hb3 hg3 hat3 hA3))
          have y1 := HY.out
          go_still_tail 12, (by kernel_rfl)
          change wpList _ _ _ _ _ w3.drew
          clear y1
          go_wp2
          go_roundg gk
          case measure => omega
          case rel => exact ⟨loop_next hg HLT.out HR.out H1.out HB1.out HK2.out HA3.out HO3.out HG3.out HAT3.out bd1 hbd0 hn⟩
        · have e5 : ((all.length : Int) == 0) = false := beq_eq_false_iff_ne.mpr (by omega)
          have e6 : (k != 4) = false := bne_eq_false_iff_eq.mpr hk4
          clear hal hk4
          go_wp2
          go_quiet (fail)
          go_wp2_with (first | (go_at_call 28; (with_reducible refine (HSM.out _).mono ?_); rintro e w1 ⟨rfl, hb⟩; have hA1 : At 59 w1 g _ _ _ := At.below (w := wr.drewN nq) HA.out hb; obtain ⟨d0, d1, d2, d3, d4, d5, d6, d7, d8⟩ := hA1.cells; have q4 := hA1.frozen 4; have HA1 := Aside0.mk hA1; have HB1 := Aside0.mk ((pw_below_drewN (Below.refl wr.heap.size wr) nq).trans hb); clear hb hA1 a0 a1 a2 a3 a4 a5 a6 a7 a8 f4) | (go_at_call 30; (with_reducible refine (HEND.out _ HB1.out).mono ?_); rintro e w2 ⟨v2, rfl, ⟨A2, c2, rfl, hl2, hr2⟩, hT2, hK2⟩; have HR2 := Aside0.mk hr2; have HT2 := Aside0.mk hT2; have HK2 := Aside0.mk hK2; clear hr2 hT2 hK2 hl2 d0 d1 d2 d3 d4 d5 d6 d7 d8 q4) | ((with_reducible refine gate_builtin (b := .append) (xs := #[.tmp 97, .tmp 104]) rfl ?_); at_builtin; refine Kd.R_append_rows k43 (w0 := w2) 0 rfl (.tmp 97) (.tmp 104) 35 43 (.agg #[.int .i64 0, .slice none 0 0, .slice none 0 0]) 56 rfl Try.underlying35 info43 rfl (by decide) (by omega) u7 ds (endD k bd ri ro all) _ _ _ (fun k => okS k ∨ w.heap.size ≤ k) (fun k => okS k ∨ w1.heap.size ≤ k) rfl rfl ?aO ?aR (fun _ _ h => h) ?aK ?aF ?aB ?aS ?aL ?_; (case aO => exact (loop_ds HDS.out HB1.out HK2.out hg HLT.out)); (case aR => exact HR2.out); (case aK => exact loop_ok HDS.out H1.out.1 HB.out HB1.out H1.out.2.1); (case aF => exact fun k hk => .inr (Nat.le_trans (Nat.le_trans H1.out.2.1.1 (Nat.le_trans HB1.out.size HK2.out.1)) hk)); (case aB => exact Below.refl _ _); (case aS => exact Nat.zero_le _); (case aL => exact loop_room H1.out.2.2.1 (endD_le k bd ri ro all)); intro v3 w3 ho hb3 hg3 hat3; have HO3 := Aside0.mk ho; have HG3 := Aside0.mk hg3; have HAT3 := Aside0.mk hat3; have hA3 : At 59 w3 g _ _ _ := loop_at HT2.out hg3 H1.out.1 HLT.out; obtain ⟨d0, d1, d2, d3, d4, d5, d6, d7, d8⟩ := hA3.cells; have q4 := hA3.frozen 4; have HA3 := Aside0.mk hA3; clear ho hb3 hg3 hat3 hA3))
          have y1 := HY.out
          go_still_tail 12, (by kernel_rfl)
          change wpList _ _ _ _ _ w3.drew
          clear y1
          go_wp2
          go_roundg gk
          case measure => omega
          case rel => exact ⟨loop_next hg HLT.out HR.out H1.out HB1.out HK2.out HA3.out HO3.out HG3.out HAT3.out bd1 hbd0 hn⟩
end Go.Proofs.Yteklabhmmfklbaa
