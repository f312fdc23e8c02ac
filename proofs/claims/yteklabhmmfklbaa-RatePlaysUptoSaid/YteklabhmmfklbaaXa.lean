import Derived.Test.YteklabhmmfklbaaMgX
namespace Go.Proofs.Yteklabhmmfklbaa
open Go.RowKit Print Go.Proofs.YteklabhmmfklbaaW.PrintWords Go.Proofs.YteklabhmmfklbaaW.PrintLast Go.Proofs.YteklabhmmfklbaaW.PrintMore
attribute [local go_sem] max2_int min2_int max_two min_two
set_option linter.unusedVariables false
/-! ### The document's Advance -/
set_option maxHeartbeats 1000000 in
set_option maxRecDepth 100000 in
theorem xadv_late (g : Nat) (s : St) (vi vo : Value) (now : Int) (A : Option Addr) (n c : Nat) (w : World) (h : At 53 w g s vi vo) (hl : mn now late < s.clock) :
    Calls Try.prog 20 #[.pointer (some ⟨g, 0, none⟩), .int .i64 now, .slice A n c] w fun e w' => e = .returned nilV ∧ w = w' := by
  obtain ⟨a0, a1, a2, a3, a4, a5, a6, a7, a8⟩ := h.cells
  clear h
  obtain ⟨m, hm⟩ : ∃ m, mn now late = m := ⟨_, rfl⟩
  have hm' : (if 1152921504606846976 < now then 1152921504606846976 else now) = m := hm
  rw [hm] at hl
  have hd : decide (m < s.clock) = true := decide_eq_true hl
  clear hm hl
  go_enter Try.func20, Try.ntmps20
  go_wp2
  go_ret
  exact ⟨rfl, rfl⟩
set_option maxHeartbeats 1000000 in
set_option maxRecDepth 100000 in
theorem xadv_plain (g : Nat) (s : St) (vi vo : Value) (now : Int) (A : Option Addr) (n c : Nat) (w : World) (h : At 53 w g s vi vo) (hl : ¬ mn now late < s.clock) (ht : s.t = false) :
    Calls Try.prog 20 #[.pointer (some ⟨g, 0, none⟩), .int .i64 now, .slice A n c] w fun e w' => e = .returned nilV ∧ At 53 w' g { s with clock := mn now late } vi vo ∧ K3 w w' (fun k => k = g) := by
  have HA := Aside0.mk h
  obtain ⟨a0, a1, a2, a3, a4, a5, a6, a7, a8⟩ := h.cells
  have f3 := h.frozen 3
  clear h
  obtain ⟨k, n', t, clock, border, events, told⟩ := s
  simp only at ht hl
  subst ht
  obtain ⟨m, hm⟩ : ∃ m, mn now late = m := ⟨_, rfl⟩
  have hm' : (if 1152921504606846976 < now then 1152921504606846976 else now) = m := hm
  rw [hm] at hl ⊢
  have hd : decide (m < clock) = false := decide_eq_false hl
  clear hm hl
  go_enter Try.func20, Try.ntmps20
  go_wp2
  go_ret
  exact ⟨rfl, by simpa [At, cellsP] using blk_set HA.out 3 (.int .i64 m), (K3.refl w (fun k => k = g)).setCell (p := ⟨g, 3, none⟩) (.inl rfl) (.int .i64 m)⟩
/-- What Advance leaves. -/
def XAdvP (w : World) (g : Nat) (okR okA : Nat → Prop) (R : St × RowsL × RowsL × List S43) (e : Ending) (w' : World) : Prop :=
  ∃ v vi vo, e = .returned v ∧ XB w' g okR R.1 vi vo R.2.1 R.2.2.1 ∧ Nd w' (fun k => (okR k ∨ okA k) ∨ w.heap.size ≤ k) v R.2.2.2 ∧ K3 w w' (fun k => k = g) ∧ (∀ k, v.ownBlock = some k → w.heap.size ≤ k)
/-- The state at a round's head. -/
def XLoopI (w : World) (g : Nat) (okR okA : Nat → Prop) (k n clock : Int) (all : RowsL) (R : St × RowsL × RowsL × List S43) (kq : Nat) (v : Value) (wr : World) : Prop :=
  ∃ (bd ev : Int) (td : Bool) (ri ro : RowsL) (vi vo : Value) (ds : List S43), XB wr g okR ⟨k, n, true, clock, bd, ev, td⟩ vi vo ri ro ∧ Nd wr (fun k => (okR k ∨ okA k) ∨ w.heap.size ≤ k) v ds ∧
    (∀ b, v.ownBlock = some b → w.heap.size ≤ b) ∧ K3 w wr (fun k => k = g) ∧ xadvL kq ⟨k, n, true, clock, bd, ev, td⟩ ri ro all ds = R ∧ clock + 1 - bd ≤ kq * n ∧ bd ≤ clock + n ∧ 0 ≤ bd ∧ ds.length + kq ≤ FU
theorem xloop_next {w w1 w2 w3 : World} {g : Nat} {okR okA : Nat → Prop} {k n m bd b' : Int} {all ri ro : RowsL} {R : St × RowsL × RowsL × List S43} {gk : Nat} {v v2 : Value} {ds : List S43} (hR : ¬ okR g) (hA : ¬ okA g) (hlR : ∀ k, okR k → k < w.heap.size) (hlt : g < w.heap.size)
    (hv : ∀ b, v.ownBlock = some b → w.heap.size ≤ b) (hK : K3 w w1 (fun k => k = g)) (hl : ds.length + (gk + 1) ≤ FU) (hN : Nd w2 (fun k => (okR k ∨ okA k) ∨ w.heap.size ≤ k) v2 (ds ++ endD k bd ri ro all)) (hK2 : K3 w1 w2 (fun k => k = g ∨ some k = v.ownBlock))
    (hat : v2.ownBlock = v.ownBlock ∨ ∃ b, v2.ownBlock = some b ∧ w1.heap.size ≤ b) (hK3 : K3 w2 w3 (fun k => k = g)) (hA3 : At 53 w3 g ⟨k, n, true, m, b', 0, false⟩ nilV nilV) (hadv : xadvL gk ⟨k, n, true, m, b', 0, false⟩ [] [] all (ds ++ endD k bd ri ro all) = R)
    (hfu : m + 1 - b' ≤ (gk : Int) * n) (hb1 : b' ≤ m + n) (hb0 : 0 ≤ b') : XLoopI w g okR okA k n m all R gk v2 w3 := by
  have hK1 : K3 w w2 (fun k => k = g) := hK.then_ hK2 (fun k hk => hk.imp id (fun h => hv k h.symm))
  have hK4 : K3 w w3 (fun k => k = g) := hK1.then_ hK3 (fun k hk => .inl hk)
  have ng : ∀ k, ((okR k ∨ okA k) ∨ w.heap.size ≤ k) → ¬ k = g := fun k hk e => by
    subst e
    rcases hk with (h | h) | h
    · exact hR h
    · exact hA h
    · omega
  refine ⟨b', 0, false, [], [], nilV, nilV, _, ⟨hA3, Rd.nil _ _, Rd.nil _ _, hR, fun k hk => Nat.lt_of_lt_of_le (hlR k hk) hK4.1⟩, Kd.N_kept hN hK3.kept ng, fun b hb => ?_, hK4, hadv, hfu, hb1, hb0, ?_⟩
  · rcases hat with hat | ⟨b2, hb2, hle⟩
    · exact hv b (hat ▸ hb)
    · rw [hb2] at hb; injection hb with hb; have := hK.1; omega
  · rw [List.length_append]
    have := endD_le k bd ri ro all
    omega
theorem xjump_fuel {m b n : Int} {gk : Nat} (h : m < b) (hn : 1 ≤ n) : m + 1 - b ≤ (gk : Int) * n := by
  have : 0 ≤ (gk : Int) * n := Int.mul_nonneg (by omega) (by omega)
  omega
theorem jump_w64 {b1 d n q p : Int} (h1 : 0 ≤ d ∧ d ≤ 2305843009213693952) (h2 : 0 ≤ q ∧ q ≤ d) (hq : d.tdiv n = q) (hp : (q + 1) * n = p) (h3 : 0 ≤ p ∧ p ≤ 4611686018427387904) (h4 : 0 ≤ b1 ∧ b1 + p ≤ 4611686018427387904) :
    wrap64 (b1 + wrap64 (wrap64 (wrap64 ((wrap64 d).tdiv n) + 1) * n)) = b1 + p := by
  rw [w64 (x := d) ⟨by omega, by omega⟩, hq, w64 (x := q) ⟨by omega, by omega⟩, w64 (x := q + 1) ⟨by omega, by omega⟩, hp, w64 (x := p) ⟨by omega, by omega⟩, w64 (x := b1 + p) ⟨by omega, by omega⟩]
set_option maxHeartbeats 8000000 in
set_option maxRecDepth 100000 in
theorem xadv_timed (g : Nat) (s : St) (vi vo v0 : Value) (rin rout all : RowsL) (okR okA : Nat → Prop) (now : Int) (w : World) (hk : s.k = 1 ∨ s.k = 2 ∨ s.k = 3 ∨ s.k = 4)
    (h : XB w g okR s vi vo rin rout) (ha : Rd w okA v0 all) (hag : ¬ okA g) (hal : ∀ k, okA k → k < w.heap.size)
    (ht : s.t = true) (hl : ¬ mn now late < s.clock) (hc0 : 0 ≤ s.clock) (hn : 1 ≤ s.n) (hn2 : s.n ≤ 1099511627776) (hbd : 0 ≤ s.border) (hbd2 : s.border ≤ s.clock + s.n) (hcl : s.clock ≤ late) (hmany : mn now late + 1 - s.border ≤ 4002 * s.n) :
    Calls Try.prog 20 #[.pointer (some ⟨g, 0, none⟩), .int .i64 now, v0] w (XAdvP w g okR okA (xadv s rin rout now all)) := by
  have HX := Aside0.mk h
  obtain ⟨A2, c2, rfl, l2, F2⟩ := id ha
  obtain ⟨a0, a1, a2, a3, a4, a5, a6, a7, a8⟩ := h.at_.cells
  have f3 := h.at_.frozen 3
  have hlt := h.at_.lt
  have hgR := h.gR
  have hlR := h.lR
  clear h
  obtain ⟨k, n, t, clock, border, events, told⟩ := s
  simp only at ht hl hk hn hn2 hbd hbd2 hcl hmany hc0
  subst ht
  obtain ⟨m, hm⟩ : ∃ m, mn now late = m := ⟨_, rfl⟩
  have hm' : (if 1152921504606846976 < now then 1152921504606846976 else now) = m := hm
  have hR : xadv ⟨k, n, true, clock, border, events, told⟩ rin rout now all = xadvL FU ⟨k, n, true, m, border, events, told⟩ rin rout all [] := by
    unfold xadv; rw [if_neg hl, if_pos rfl, hm]
  rw [hR]
  rw [hm] at hmany hl
  have hd' : decide (m < clock) = false := decide_eq_false hl
  have hmc : clock ≤ m ∧ m ≤ 1152921504606846976 := by
    have : m = if late < now then late else now := hm.symm
    unfold late at this
    split at this <;> omega
  have HI0 : XLoopI w g okR okA k n m all (xadvL FU ⟨k, n, true, m, border, events, told⟩ rin rout all []) FU nilV (w.setCell ⟨g, 3, none⟩ (.int .i64 m)) :=
    ⟨border, events, told, rin, rout, vi, vo, [], ⟨HX.out.at_.set_clock m, HX.out.ri.kept ((K3.refl w (fun k => k = g)).setCell (p := ⟨g, 3, none⟩) (.inl rfl) _) (fun k hk e => hgR (e ▸ hk)), HX.out.ro.kept ((K3.refl w (fun k => k = g)).setCell (p := ⟨g, 3, none⟩) (.inl rfl) _) (fun k hk e => hgR (e ▸ hk)), hgR, fun k hk => by simpa [World.setCell] using hlR k hk⟩,
      Kd.N_nil _ _ _ _ _, fun b hb => by simp [Value.ownBlock] at hb, (K3.refl w (fun k => k = g)).setCell (p := ⟨g, 3, none⟩) (.inl rfl) _, rfl, by unfold FU; omega, by omega, by omega, by simp⟩
  obtain ⟨R, hRR⟩ : ∃ R, xadvL FU ⟨k, n, true, m, border, events, told⟩ rin rout all [] = R := ⟨_, rfl⟩
  rw [hRR] at HI0 ⊢
  have HI := Aside0.mk HI0
  have HLT := Aside0.mk hlt
  have HALL := Aside0.mk ha
  have HK := Aside0.mk hk
  have HG := Aside0.mk (And.intro hgR (And.intro hag (And.intro hlR hal)))
  have HM := Aside0.mk hmc
  have HN := Aside0.mk (And.intro hn hn2)
  clear HI0 hm hR hRR ha hk hl hmany hbd hbd2 hcl hc0 hmc hlt hgR hlR hag hal F2 HX l2
  go_enter Try.func20, Try.ntmps20
  go_wp2
  clear hm' hd' a0 a1 a2 a3 a4 a5 a6 a7 a8 f3
  go_loopg [7] FU (fun kq v wr => Aside0 (XLoopI w g okR okA k n m all R kq v wr))
  case atStart => exact HI
  case round =>
    clear HI
    obtain ⟨bd, ev, td, ri, ro, vi', vo', ds, hX, hds, hv, hK, hadv, hfu, hbd, hbd0, hdl⟩ := hrel.out
    clear hrel
    obtain ⟨a0, a1, a2, a3, a4, a5, a6, a7, a8⟩ := hX.at_.cells
    have HX := Aside0.mk hX
    by_cases cb : m < bd
    · have e1 : decide (bd ≤ m) = false := decide_eq_false (by omega)
      have e2 : (bd ≤ m) = False := eq_false (by omega)
      have HR : Aside0 (R = (⟨k, n, true, m, bd, ev, td⟩, ri, ro, ds)) := ⟨by
        rw [← hadv]
        cases gk with
        | zero => rfl
        | succ gk => unfold xadvL; rw [if_pos cb]⟩
      have H1 := Aside0.mk (And.intro hds (And.intro hv hK))
      clear hX hds hv hK hadv hfu hbd hbd0 hdl cb
      go_wp2
      go_quiet (fail)
      go_wp2
      go_ret
      obtain ⟨hds, hv, hK⟩ := H1.out
      rw [HR.out]
      have bl := pw_below_drewN (Below.refl wr.heap.size wr) nq
      exact ⟨_, vi', vo', rfl, HX.out.below bl, Kd.N_below hds bl, hK.drewN nq, hv⟩
    · have e1 : decide (bd ≤ m) = true := decide_eq_true (by omega)
      have e2 : (bd ≤ m) = True := eq_true (by omega)
      obtain ⟨gk, rfl⟩ : ∃ j, gk = j + 1 := ⟨gk - 1, by
        rcases gk with _ | gk
        · exfalso; simp at hfu; omega
        · rfl⟩
      obtain ⟨A3, c3, rfl⟩ := Kd.N_slice hds
      have hb' : bd ≤ m := by omega
      have HR : Aside0 (xadvL gk ⟨k, n, true, m, if bd + n ≤ m ∧ (k ≠ 4 ∨ all.length = 0) then bd + n + ((m - (bd + n)) / n + 1) * n else bd + n, 0, false⟩ [] [] all (ds ++ endD k bd ri ro all) = R) := ⟨by
        rw [← hadv]
        conv => rhs; unfold xadvL
        rw [if_neg cb]⟩
      have H1 := Aside0.mk (And.intro hv (And.intro hK (And.intro hdl (And.intro hfu (And.intro hbd hbd0)))))
      have HDS := Aside0.mk hds
      have HEND := Aside0.mk (fun W (hW : Below wr.heap.size wr W) => xend_any g ⟨k, n, true, m, bd, ev, td⟩ bd vi' vo' (.slice A2 all.length c2) (.slice A3 ds.length c3) ri ro all okR okA (fun k => (okR k ∨ okA k) ∨ w.heap.size ≤ k) ds W HK.out (HX.out.below hW) ((HALL.out.kept hK (fun k hk e => HG.out.2.1 (e ▸ hk))).below hW) (Kd.N_below hds hW)
        (fun k hk => ⟨.inl (.inl hk), fun e => by have := hv k e.symm; have := HG.out.2.2.1 k hk; omega⟩) (fun k hk => ⟨.inl (.inr hk), fun e => by have := hv k e.symm; have := HG.out.2.2.2 k hk; omega⟩) HG.out.2.1
        (fun k hk => .inr (Nat.le_trans hK.1 (Nat.le_trans hW.size hk))) (fun h => h.elim (fun h => h.elim HG.out.1 HG.out.2.1) (fun h => by have := HLT.out; omega)) (by unfold FU at hdl; omega))
      have hmm := HM.out
      have hnn := HN.out
      clear hX hds hv hK hadv hdl cb hfu
      have hy : IntKind.i64.wrap (bd + n) = bd + n := IntWalk.i64_in _ (by omega)
      have hbn : bd + n ≤ m + n ∧ 0 ≤ bd + n ∧ bd + n ≤ 2305843009213693952 := by clear hy; omega
      have hfn := loop_fuel H1.out.2.2.2.1
      obtain ⟨b1, hb1⟩ : ∃ b1, bd + n = b1 := ⟨_, rfl⟩
      rw [hb1] at hy hbn hfn HR
      have HY : Aside0 (IntKind.i64.wrap (bd + n) = b1) := ⟨by rw [hb1]; exact hy⟩
      have HBN := Aside0.mk (And.intro hbn hfn)
      clear hy hb1 hfn hbd hbd0 hbn
      go_wp2
      go_quiet (fail)
      go_wp2_with (first | (go_at_call 33; refine (HEND.out _ (pw_below_drewN (Below.refl wr.heap.size wr) nq)).mono ?_; rintro e w2 ⟨v2, rfl, hA2, hN2, hK2, hat2⟩; have HA2 := Aside0.mk hA2; have HN2 := Aside0.mk (And.intro hN2 (And.intro hK2 hat2)); obtain ⟨d0, d1, d2, d3, d4, d5, d6, d7, d8⟩ := hA2.cells; have q4 := hA2.frozen 4; clear hA2 hN2 hK2 hat2 a0 a1 a2 a3 a4 a5 a6 a7 a8))
      have HKW := Aside0.mk (H1.out.2.1.drewN nq)
      have y1 := HY.out
      go_still_tail 12, (by kernel_rfl)
      change wpList _ _ _ _ _ w2.drew
      clear y1
      go_wp2
      have hA3 : At 53 (w2.setCell ⟨g, 4, none⟩ (.int .i64 b1)).drew g ⟨k, n, true, m, b1, 0, false⟩ nilV nilV := At.set_border (w := w2) HA2.out b1
      have hK3 : K3 w2 (w2.setCell ⟨g, 4, none⟩ (.int .i64 b1)).drew (fun k => k = g) := ((K3.refl w2 (fun k => k = g)).setCell (p := ⟨g, 4, none⟩) (.inl rfl) _).drew
      clear d0 d1 d2 d3 d4 d5 d6 d7 d8 q4
      generalize (w2.setCell ⟨g, 4, none⟩ (.int .i64 b1)).drew = w3 at *
      obtain ⟨d0, d1, d2, d3, d4, d5, d6, d7, d8⟩ := hA3.cells
      have q4 := hA3.frozen 4
      have HA3 := Aside0.mk hA3
      have HK3 := Aside0.mk hK3
      clear hA3 hK3
      obtain ⟨⟨hbn1, hbn2, hbn3⟩, hfn⟩ := HBN.out
      clear hfn
      by_cases c1 : b1 ≤ m
      · have c1b : decide (b1 ≤ m) = true := decide_eq_true c1
        have c1e : (b1 ≤ m) = True := eq_true c1
        by_cases k4 : k = 4
        · have HK4 := Aside0.mk k4
          by_cases az : all.length = 0
          · have e4 : (k != 4) = false := bne_eq_false_iff_eq.mpr k4
            clear k4
            have e5 : ((all.length : Int) == 0) = true := beq_iff_eq.mpr (by omega)
            have HAZ := Aside0.mk az
            clear az
            go_quiet (fail)
            go_wp2
            have hA4 : At 53 (w3.drewN nq) g ⟨k, n, true, m, b1, 0, false⟩ nilV nilV := HA3.out
            have HK4' := Aside0.mk (HK3.out.drewN nq)
            clear d0 d1 d2 d3 d4 d5 d6 d7 d8 q4
            generalize w3.drewN nq = w4 at *
            obtain ⟨d0, d1, d2, d3, d4, d5, d6, d7, d8⟩ := hA4.cells
            have q4 := hA4.frozen 4
            have HA4 := Aside0.mk hA4
            clear hA4
            obtain ⟨d, hd⟩ : ∃ d, m - b1 = d := ⟨_, rfl⟩
            obtain ⟨q, hq⟩ : ∃ q, Int.tdiv d n = q := ⟨_, rfl⟩
            obtain ⟨p, hp⟩ : ∃ p, (q + 1) * n = p := ⟨_, rfl⟩
            have hd0 : 0 ≤ d := by omega
            have hqe : (m - b1) / n = q := by rw [← hq, ← hd, Int.tdiv_eq_ediv_of_nonneg (by omega)]
            have hq0 : 0 ≤ q := by rw [← hqe]; exact Int.ediv_nonneg (by omega) (by omega)
            have hq1 : q ≤ d := by rw [← hqe, hd]; exact Int.ediv_le_self _ hd0
            have hqn : q * n ≤ d := by rw [← hqe, hd]; exact Int.ediv_mul_le _ (by omega)
            have hj := jump_past (c := m) (b := b1) hnn.1 (by omega)
            rw [hqe, hp] at hj
            have hp1 : p ≤ d + n := by rw [← hp, Int.add_mul, Int.one_mul]; omega
            have hp0 : 0 ≤ p := by omega
            have HR2 : Aside0 (xadvL gk ⟨k, n, true, m, b1 + p, 0, false⟩ [] [] all (ds ++ endD k bd ri ro all) = R) := ⟨by
              have := HR.out
              rw [if_pos ⟨by omega, .inr HAZ.out⟩, hqe, hp] at this
              exact this⟩
            have HB2 : Aside0 (m + 1 - (b1 + p) ≤ (gk : Int) * n ∧ b1 + p ≤ m + n ∧ 0 ≤ b1 + p) := ⟨xjump_fuel hj hnn.1, by omega, by omega⟩
            have HV := Aside0.mk (jump_w64 (b1 := b1) (n := n) (by omega) (by omega) hq hp (by omega) (by omega))
            have x1 : IntKind.i64.wrap (m - b1) = d := by rw [hd]; exact IntWalk.i64_in _ (by omega)
            have x2 : IntKind.i64.wrap q = q := IntWalk.i64_in _ (by omega)
            have x3 : IntKind.i64.wrap (q + 1) = q + 1 := IntWalk.i64_in _ (by omega)
            have x4 : IntKind.i64.wrap ((q + 1) * n) = p := by rw [hp]; exact IntWalk.i64_in _ (by omega)
            have x5 : IntKind.i64.wrap (b1 + p) = b1 + p := IntWalk.i64_in _ (by omega)
            have x6 : (n == 0) = false := by simp; omega
            have x7 : (n = 0) = False := by simp; omega
            clear hqe hq0 hq1 hqn hj hp1 hp0 hd0
            go_still_tail 29, (by kernel_rfl)
            change wpList _ _ _ _ _ w4.drew
            clear x1 x2 x3 x4 x5 x6 x7 hp hq hd
            go_wp2
            go_roundg gk
            case measure => omega
            case rel =>
              have hK4 : K3 w2 (w4.setCell ⟨g, 4, none⟩ (.int .i64 (b1 + p))).drew (fun k => k = g) := (HK4'.out.setCell (p := ⟨g, 4, none⟩) (.inl rfl) _).drew
              rw [HV.out]
              exact ⟨xloop_next HG.out.1 HG.out.2.1 HG.out.2.2.1 HLT.out H1.out.1 HKW.out H1.out.2.2.1 HN2.out.1 HN2.out.2.1 HN2.out.2.2 hK4 (At.set_border (w := w4) HA4.out (b1 + p)) HR2.out HB2.out.1 HB2.out.2.1 HB2.out.2.2⟩
          · have e4 : (k != 4) = false := bne_eq_false_iff_eq.mpr k4
            clear k4
            have e5 : ((all.length : Int) == 0) = false := beq_eq_false_iff_ne.mpr (by omega)
            have HAZ := Aside0.mk az
            clear az
            go_quiet (fail)
            have HR2 : Aside0 (xadvL gk ⟨k, n, true, m, b1, 0, false⟩ [] [] all (ds ++ endD k bd ri ro all) = R) := ⟨by
              have := HR.out
              rw [if_neg (fun h => h.2.elim (fun h => h HK4.out) HAZ.out)] at this
              exact this⟩
            go_wp2
            go_roundg gk
            case measure => omega
            case rel => exact ⟨xloop_next HG.out.1 HG.out.2.1 HG.out.2.2.1 HLT.out H1.out.1 HKW.out H1.out.2.2.1 HN2.out.1 HN2.out.2.1 HN2.out.2.2 (HK3.out.drewN nq) HA3.out HR2.out HBN.out.2 HBN.out.1.1 HBN.out.1.2.1⟩
        · have e4 : (k != 4) = true := bne_iff_ne.mpr k4
          have HK4 := Aside0.mk k4
          clear k4
          go_quiet (fail)
          go_wp2
          have hA4 : At 53 (w3.drewN nq) g ⟨k, n, true, m, b1, 0, false⟩ nilV nilV := HA3.out
          have HK4' := Aside0.mk (HK3.out.drewN nq)
          clear d0 d1 d2 d3 d4 d5 d6 d7 d8 q4
          generalize w3.drewN nq = w4 at *
          obtain ⟨d0, d1, d2, d3, d4, d5, d6, d7, d8⟩ := hA4.cells
          have q4 := hA4.frozen 4
          have HA4 := Aside0.mk hA4
          clear hA4
          obtain ⟨d, hd⟩ : ∃ d, m - b1 = d := ⟨_, rfl⟩
          obtain ⟨q, hq⟩ : ∃ q, Int.tdiv d n = q := ⟨_, rfl⟩
          obtain ⟨p, hp⟩ : ∃ p, (q + 1) * n = p := ⟨_, rfl⟩
          have hd0 : 0 ≤ d := by omega
          have hqe : (m - b1) / n = q := by rw [← hq, ← hd, Int.tdiv_eq_ediv_of_nonneg (by omega)]
          have hq0 : 0 ≤ q := by rw [← hqe]; exact Int.ediv_nonneg (by omega) (by omega)
          have hq1 : q ≤ d := by rw [← hqe, hd]; exact Int.ediv_le_self _ hd0
          have hqn : q * n ≤ d := by rw [← hqe, hd]; exact Int.ediv_mul_le _ (by omega)
          have hj := jump_past (c := m) (b := b1) hnn.1 (by omega)
          rw [hqe, hp] at hj
          have hp1 : p ≤ d + n := by rw [← hp, Int.add_mul, Int.one_mul]; omega
          have hp0 : 0 ≤ p := by omega
          have HR2 : Aside0 (xadvL gk ⟨k, n, true, m, b1 + p, 0, false⟩ [] [] all (ds ++ endD k bd ri ro all) = R) := ⟨by
            have := HR.out
            rw [if_pos ⟨by omega, .inl HK4.out⟩, hqe, hp] at this
            exact this⟩
          have HB2 : Aside0 (m + 1 - (b1 + p) ≤ (gk : Int) * n ∧ b1 + p ≤ m + n ∧ 0 ≤ b1 + p) := ⟨xjump_fuel hj hnn.1, by omega, by omega⟩
          have HV := Aside0.mk (jump_w64 (b1 := b1) (n := n) (by omega) (by omega) hq hp (by omega) (by omega))
          have x1 : IntKind.i64.wrap (m - b1) = d := by rw [hd]; exact IntWalk.i64_in _ (by omega)
          have x2 : IntKind.i64.wrap q = q := IntWalk.i64_in _ (by omega)
          have x3 : IntKind.i64.wrap (q + 1) = q + 1 := IntWalk.i64_in _ (by omega)
          have x4 : IntKind.i64.wrap ((q + 1) * n) = p := by rw [hp]; exact IntWalk.i64_in _ (by omega)
          have x5 : IntKind.i64.wrap (b1 + p) = b1 + p := IntWalk.i64_in _ (by omega)
          have x6 : (n == 0) = false := by simp; omega
          have x7 : (n = 0) = False := by simp; omega
          clear hqe hq0 hq1 hqn hj hp1 hp0 hd0
          go_still_tail 29, (by kernel_rfl)
          change wpList _ _ _ _ _ w4.drew
          clear x1 x2 x3 x4 x5 x6 x7 hp hq hd
          go_wp2
          go_roundg gk
          case measure => omega
          case rel =>
            have hK4 : K3 w2 (w4.setCell ⟨g, 4, none⟩ (.int .i64 (b1 + p))).drew (fun k => k = g) := (HK4'.out.setCell (p := ⟨g, 4, none⟩) (.inl rfl) _).drew
            rw [HV.out]
            exact ⟨xloop_next HG.out.1 HG.out.2.1 HG.out.2.2.1 HLT.out H1.out.1 HKW.out H1.out.2.2.1 HN2.out.1 HN2.out.2.1 HN2.out.2.2 hK4 (At.set_border (w := w4) HA4.out (b1 + p)) HR2.out HB2.out.1 HB2.out.2.1 HB2.out.2.2⟩
      · have c1b : decide (b1 ≤ m) = false := decide_eq_false c1
        have c1e : (b1 ≤ m) = False := eq_false c1
        go_quiet (fail)
        have HR2 : Aside0 (xadvL gk ⟨k, n, true, m, b1, 0, false⟩ [] [] all (ds ++ endD k bd ri ro all) = R) := ⟨by
          have := HR.out
          rw [if_neg (fun h => c1 h.1)] at this
          exact this⟩
        go_wp2
        go_roundg gk
        case measure => omega
        case rel => exact ⟨xloop_next HG.out.1 HG.out.2.1 HG.out.2.2.1 HLT.out H1.out.1 HKW.out H1.out.2.2.1 HN2.out.1 HN2.out.2.1 HN2.out.2.2 (HK3.out.drewN nq) HA3.out HR2.out HBN.out.2 HBN.out.1.1 HBN.out.1.2.1⟩
theorem xadv_any (g : Nat) (s : St) (vi vo v0 : Value) (rin rout all : RowsL) (okR okA : Nat → Prop) (now : Int) (w : World) (h : XB w g okR s vi vo rin rout) (hG : Good s) (ha : Rd w okA v0 all) (hag : ¬ okA g) (hal : ∀ k, okA k → k < w.heap.size) (hmany : s.t = true → mn now late + 1 - s.border ≤ 4002 * s.n) :
    Calls Try.prog 20 #[.pointer (some ⟨g, 0, none⟩), .int .i64 now, v0] w (XAdvP w g okR okA (xadv s rin rout now all)) := by
  by_cases hl : mn now late < s.clock
  · obtain ⟨A2, c2, rfl, _⟩ := id ha
    refine (xadv_late g s vi vo now A2 all.length c2 w h.at_ hl).mono fun e w' ⟨he, hw⟩ => ?_
    subst hw
    unfold xadv
    rw [if_pos hl]
    exact ⟨nilV, vi, vo, he, h, Kd.N_nil _ _ _ _ _, K3.refl _ _, fun k hk => by simp [Value.ownBlock] at hk⟩
  · cases ht : s.t
    · obtain ⟨A2, c2, rfl, _⟩ := id ha
      refine (xadv_plain g s vi vo now A2 all.length c2 w h.at_ hl ht).mono fun e w' ⟨he, hA, hK⟩ => ?_
      unfold xadv
      rw [if_neg hl, if_neg (by rw [ht]; decide)]
      have ng : ∀ k, okR k → ¬ k = g := fun k hk e => h.gR (e ▸ hk)
      exact ⟨nilV, vi, vo, he, ⟨hA, h.ri.kept hK ng, h.ro.kept hK ng, h.gR, fun k hk => Nat.lt_of_lt_of_le (h.lR k hk) hK.1⟩, Kd.N_nil _ _ _ _ _, hK, fun k hk => by simp [Value.ownBlock] at hk⟩
    · exact xadv_timed g s vi vo v0 rin rout all okR okA now w (hG.k0.resolve_left (hG.t0 ht)) h ha hag hal ht hl hG.c0 (hG.n1 ht) hG.n2 (hG.b0 ht) (hG.b1 ht) hG.cl (hmany ht)
end Go.Proofs.Yteklabhmmfklbaa
