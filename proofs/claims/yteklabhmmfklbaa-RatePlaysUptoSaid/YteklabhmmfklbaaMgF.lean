import Derived.Test.YteklabhmmfklbaaXa
import Derived.Deep.RegionHeld3
import Derived.Deep.CutBlock
namespace Go.Proofs.Yteklabhmmfklbaa
open Go.RowKit Print Go.Proofs.YteklabhmmfklbaaW.PrintWords Go.Proofs.YteklabhmmfklbaaW.PrintLast Go.Proofs.YteklabhmmfklbaaW.PrintMore
set_option linter.unusedVariables false
/-! ### Two rows of the call's own that grow: their elements are only read (E) -/
structure AP (W1 : World) (E : Nat → Prop) (v1 : Value) (l1 : RowsL) (v2 : Value) (l2 : RowsL) (w : World) : Prop where
  b : Below W1.heap.size W1 w
  e : ∃ P1 P2 : Nat → Prop, Kd.N kR 61 w 0 (fun k => E k ∨ P1 k) v1 l1 ∧ Kd.N kR 61 w 0 (fun k => E k ∨ P2 k) v2 l2 ∧ (∀ k, P1 k → (W1.heap.size ≤ k ∧ k < w.heap.size) ∧ ¬ P2 k) ∧ (∀ k, P2 k → W1.heap.size ≤ k ∧ k < w.heap.size) ∧
    (∀ k, v1.ownBlock = some k → P1 k) ∧ (∀ k, v2.ownBlock = some k → P2 k)
theorem AP.begin (W1 : World) (E : Nat → Prop) : AP W1 E nilV [] nilV [] W1 :=
  ⟨Below.refl _ _, fun _ => False, fun _ => False, Kd.N_nil _ _ _ _ _, Kd.N_nil _ _ _ _ _, fun _ h => h.elim, fun _ h => h.elim, fun k hk => by simp [Value.ownBlock] at hk, fun k hk => by simp [Value.ownBlock] at hk⟩
theorem AP.below {W1 w w' : World} {E : Nat → Prop} {v1 v2 : Value} {l1 l2 : RowsL} (h : AP W1 E v1 l1 v2 l2 w) (hb : Below w.heap.size w w') : AP W1 E v1 l1 v2 l2 w' := by
  obtain ⟨b, P1, P2, n1, n2, h1, h2, o1, o2⟩ := h
  exact ⟨below_step b hb, P1, P2, Kd.N_below n1 hb, Kd.N_below n2 hb, fun k hk => ⟨⟨(h1 k hk).1.1, Nat.lt_of_lt_of_le (h1 k hk).1.2 hb.size⟩, (h1 k hk).2⟩, fun k hk => ⟨(h2 k hk).1, Nat.lt_of_lt_of_le (h2 k hk).2 hb.size⟩, o1, o2⟩
theorem AP.swap {W1 w : World} {E : Nat → Prop} {v1 v2 : Value} {l1 l2 : RowsL} (h : AP W1 E v1 l1 v2 l2 w) : AP W1 E v2 l2 v1 l1 w := by
  obtain ⟨b, P1, P2, n1, n2, h1, h2, o1, o2⟩ := h
  exact ⟨b, P2, P1, n2, n1, fun k hk => ⟨h2 k hk, fun hk1 => (h1 k hk1).2 hk⟩, fun k hk => (h1 k hk).1, o2, o1⟩
theorem room_r {a m : Nat} (h : a + m ≤ 4194304) : (a + m) * 24 ≤ 140737488355328 := by omega
section
variable {W1 w : World} {E : Nat → Prop} {v1 v2 : Value} {l1 l2 ys : RowsL} {ops : Array Oper} {o : Oper} {a : Act} {Q : Exit → Act → World → Prop} {Kc : Act → World → Prop}
/-- Rows behind the first. -/
theorem ap1_step (h : AP W1 E v1 l1 v2 l2 w) (hE : ∀ k, E k → k < W1.heap.size) (hw : Region.wanted o (yielded ops a.tmps) = true) (s x : Operand) (ho : o.op = .call { callee := .builtin .append, args := #[s, x], argTypes := #[29, 29] }) {A : Option Addr} {m c : Nat}
    (hs : a.eval s = v1) (hx : a.eval x = .slice A m c) (HR : Kd.F kR w E A m ys) (hl : l1.length + m ≤ 4194304)
    (K : ∀ v1' w', AP W1 E v1' (l1 ++ ys) v2 l2 w' → Kc (a.put o.dst v1') w') : if Region.wanted o (yielded ops a.tmps) = true then Oper.wp Try.prog o a w Kc Q else Kc (a.put o.dst undef) w := by
  obtain ⟨b, P1, P2, n1, n2, h1, h2, o1, o2⟩ := h
  have hEo : ∀ k, E k → some k ≠ v1.ownBlock := fun k hk e => by have := hE k hk; have := (h1 k (o1 k e.symm)).1.1; omega
  refine Kd.N_append_rows_step kR (W := w) (w0 := w) 0 hw s x 29 61 (.slice none 0 0) 24 ho Try.underlying29 info61 rfl (by decide) (by decide) v1 l1 ys A m c (fun k => E k ∨ (P1 k ∨ w.heap.size ≤ k)) E hs hx (Kd.N_mono n1 (fun k hk => hk.imp id .inl)) HR (fun k hk => ⟨.inl hk, hEo k hk⟩) (fun k hk => .inr (.inr hk)) (Below.refl _ _) (Nat.zero_le _) (room_r hl) ?_
  intro v1' w1 hN hb hg hat
  have hsz := hg.size
  have hlt := Kd.N_lt hN
  refine K v1' w1 ⟨K3.to_below b (K3.of_grown hg (K3.refl w (fun k => some k = v1.ownBlock)) (fun k hk => .inl hk.symm)) (fun k hk => (h1 k (o1 k hk.symm)).1.1), fun k => (P1 k ∨ w.heap.size ≤ k) ∧ k < w1.heap.size, P2, Kd.N_mono (Kd.N_bound hN) (fun k hk => hk.1.imp id (fun h => ⟨h, hk.2⟩)), Kd.N_grown n2 hg (fun k hk => hk.elim (hEo k) (fun hp e => (h1 k (o1 k e.symm)).2 hp)), fun k hk => ⟨⟨hk.1.elim (fun h => (h1 k h).1.1) (fun h => Nat.le_trans b.size h), hk.2⟩, fun hp => hk.1.elim (fun h => (h1 k h).2 hp) (fun h => by have := (h2 k hp).2; omega)⟩, fun k hk => ⟨(h2 k hk).1, Nat.lt_of_lt_of_le (h2 k hk).2 hsz⟩, fun k hk => ⟨?_, hlt k hk⟩, o2⟩
  rcases hat with hat | ⟨b2, hb2, hle⟩
  · exact .inl (o1 k (hat ▸ hk))
  · rw [hb2] at hk; injection hk with hk; exact .inr (by omega)
/-- Rows behind the second. -/
theorem ap2_step (h : AP W1 E v1 l1 v2 l2 w) (hE : ∀ k, E k → k < W1.heap.size) (hw : Region.wanted o (yielded ops a.tmps) = true) (s x : Operand) (ho : o.op = .call { callee := .builtin .append, args := #[s, x], argTypes := #[29, 29] }) {A : Option Addr} {m c : Nat}
    (hs : a.eval s = v2) (hx : a.eval x = .slice A m c) (HR : Kd.F kR w E A m ys) (hl : l2.length + m ≤ 4194304)
    (K : ∀ v2' w', AP W1 E v1 l1 v2' (l2 ++ ys) w' → Kc (a.put o.dst v2') w') : if Region.wanted o (yielded ops a.tmps) = true then Oper.wp Try.prog o a w Kc Q else Kc (a.put o.dst undef) w :=
  ap1_step h.swap hE hw s x ho hs hx HR hl (fun v2' w' h' => K v2' w' h'.swap)
end
/-! ### Feed's state, seen from the call's begin -/
abbrev okE (w : World) (okR okX : Nat → Prop) : Nat → Prop := fun k => (okR k ∨ okX k) ∨ w.heap.size ≤ k
def XG (w : World) (g : Nat) (okR okX : Nat → Prop) (S : St × RowsL × RowsL × List S43) (v : Value) (wz : World) : Prop :=
  ∃ vi vo, ∃ okR' : Nat → Prop, XB wz g okR' S.1 vi vo S.2.1 S.2.2.1 ∧ Nd wz (okE w okR okX) v S.2.2.2 ∧ K3 w wz (fun k => k = g) ∧ (∀ k, okR' k → okE w okR okX k ∧ some k ≠ v.ownBlock) ∧ (∀ k, v.ownBlock = some k → w.heap.size ≤ k)
def XFeedP (w : World) (g : Nat) (okR okX : Nat → Prop) (S : St × RowsL × RowsL × List S43) (e : Ending) (w' : World) : Prop := ∃ v, e = .returned v ∧ XG w g okR okX S v w'
section
variable {w wz w1 w2 : World} {g : Nat} {okR okX : Nat → Prop} {S : St × RowsL × RowsL × List S43} {s : St} {ri ro : RowsL} {ds : List S43} {v : Value}
theorem XG.below (h : XG w g okR okX S v wz) (hb : Below wz.heap.size wz w1) : XG w g okR okX S v w1 := by
  obtain ⟨vi, vo, okR', h1, h2, h3, h4, h5⟩ := h
  exact ⟨vi, vo, okR', h1.below hb, Kd.N_below h2 hb, h3.below hb, h4, h5⟩
theorem okE_g (hg : g < w.heap.size) (hR : ¬ okR g) (hX : ¬ okX g) : ∀ k, okE w okR okX k → ¬ k = g := fun k hk e => by
  subst e
  rcases hk with (h | h) | h
  · exact hR h
  · exact hX h
  · omega
theorem XG.set {s2 : St} {i : Nat} {u : Value} (h : XG w g okR okX (s, ri, ro, ds) v wz) (hng : ∀ k, okE w okR okX k → ¬ k = g) (hA : ∀ vi vo, At 53 wz g s vi vo → At 53 (wz.setCell ⟨g, i, none⟩ u) g s2 vi vo) : XG w g okR okX (s2, ri, ro, ds) v (wz.setCell ⟨g, i, none⟩ u) := by
  obtain ⟨vi, vo, okR', h1, h2, h3, h4, h5⟩ := h
  have hk : K3 wz (wz.setCell ⟨g, i, none⟩ u) (fun k => k = g) := (K3.refl wz (fun k => k = g)).setCell (p := ⟨g, i, none⟩) (.inl rfl) u
  have hr : ∀ k, okR' k → ¬ k = g := fun k hk e => h1.gR (e ▸ hk)
  exact ⟨vi, vo, okR', ⟨hA vi vo h1.at_, h1.ri.kept hk hr, h1.ro.kept hk hr, h1.gR, fun k hk' => Nat.lt_of_lt_of_le (h1.lR k hk') hk.1⟩, Kd.N_kept h2 hk.kept hng, h3.then_ hk (fun _ h => .inl h), h4, h5⟩
theorem XG.told (h : XG w g okR okX (s, ri, ro, ds) v wz) (hng : ∀ k, okE w okR okX k → ¬ k = g) : XG w g okR okX ({ s with told := true }, ri, ro, ds) v (wz.setCell ⟨g, 8, none⟩ (.bool true)) :=
  h.set hng (fun vi vo hA => by simpa [At, cellsP] using blk_set hA 8 (.bool true))
theorem XG.events (h : XG w g okR okX (s, ri, ro, ds) v wz) (hng : ∀ k, okE w okR okX k → ¬ k = g) (x : Int) : XG w g okR okX ({ s with events := x }, ri, ro, ds) v (wz.setCell ⟨g, 5, none⟩ (.int .i64 x)) :=
  h.set hng (fun vi vo hA => At.set_events hA x)
/-- One more delivery. -/
theorem XG.app {v2 : Value} {l : List S43} (h : XG w g okR okX (s, ri, ro, ds) v wz) (hgv : some g ≠ v.ownBlock) (hN : Nd w2 (okE w okR okX) v2 l) (hg : wz.grownBy w2 v.ownBlock) (hat : v2.ownBlock = v.ownBlock ∨ ∃ b, v2.ownBlock = some b ∧ wz.heap.size ≤ b) : XG w g okR okX (s, ri, ro, l) v2 w2 := by
  obtain ⟨vi, vo, okR', h1, h2, h3, h4, h5⟩ := h
  have hk : K3 wz w2 (fun k => some k = v.ownBlock) := K3.of_grown hg (K3.refl wz _) (fun k hk => .inl hk.symm)
  refine ⟨vi, vo, okR', h1.kept hk hgv (fun k hk => (h4 k hk).2), hN, h3.then_ hk (fun k hk => .inr (h5 k hk.symm)), fun k hk => ⟨(h4 k hk).1, ?_⟩, fun k hk => ?_⟩
  · rcases hat with hat | ⟨b, hb, hle⟩
    · rw [hat]; exact (h4 k hk).2
    · rw [hb]; intro e; injection e with e; have := h1.lR k hk; omega
  · rcases hat with hat | ⟨b, hb, hle⟩
    · exact h5 k (hat ▸ hk)
    · rw [hb] at hk; injection hk with hk; have := h3.1; omega
theorem at_rows {ty : Nat} {vi vo : Value} (h : At ty wz g s vi vo) (xi xo : Value) : At ty ((wz.setCell ⟨g, 6, none⟩ xi).setCell ⟨g, 7, none⟩ xo) g s xi xo := by
  simpa [At, cellsP] using blk_set (blk_set h 6 xi) 7 xo
/-- New rows. -/
theorem XG.rows {xi xo : Value} {li lo : RowsL} {okN : Nat → Prop} (h : XG w g okR okX (s, ri, ro, ds) v wz) (hng : ∀ k, okE w okR okX k → ¬ k = g) (hi : Rd wz okN xi li) (ho : Rd wz okN xo lo) (hN : ∀ k, okN k → okE w okR okX k ∧ some k ≠ v.ownBlock) : XG w g okR okX (s, li, lo, ds) v ((wz.setCell ⟨g, 6, none⟩ xi).setCell ⟨g, 7, none⟩ xo) := by
  obtain ⟨vi, vo, okR', h1, h2, h3, h4, h5⟩ := h
  have hk : K3 wz ((wz.setCell ⟨g, 6, none⟩ xi).setCell ⟨g, 7, none⟩ xo) (fun k => k = g) := ((K3.refl wz (fun k => k = g)).setCell (p := ⟨g, 6, none⟩) (.inl rfl) xi).setCell (p := ⟨g, 7, none⟩) (.inl rfl) xo
  have hs : ((wz.setCell ⟨g, 6, none⟩ xi).setCell ⟨g, 7, none⟩ xo).heap.size = wz.heap.size := by simp [World.setCell]
  exact ⟨xi, xo, fun k => okN k ∧ k < wz.heap.size, ⟨at_rows h1.at_ xi xo, hi.bound.kept hk (fun k hk => hng k (hN k hk.1).1), ho.bound.kept hk (fun k hk => hng k (hN k hk.1).1), fun h => hng g (hN g h.1).1 rfl, fun k hk => by rw [hs]; exact hk.2⟩, Kd.N_kept h2 hk.kept hng, h3.then_ hk (fun _ h => .inl h), fun k hk => hN k hk.1, h5⟩
theorem XG.end_ {ds2 : List S43} {e : Ending} (h : XG w g okR okX (s, ri, ro, ds) v wz) (hE : XEnd wz g s (okE w okR okX) v ds2 e w2) (hgR : ¬ okE w okR okX g) : XFeedP w g okR okX ({ s with told := false, events := 0 }, [], [], ds2) e w2 := by
  obtain ⟨vi, vo, okR', h1, h2, h3, h4, h5⟩ := h
  obtain ⟨v', rfl, hA, hN, hK, hat⟩ := hE
  refine ⟨v', rfl, nilV, nilV, fun _ => False, ⟨hA, Rd.nil _ _, Rd.nil _ _, fun h => h, fun _ h => h.elim⟩, hN, h3.then_ hK (fun k hk => hk.imp id (fun h => h5 k h.symm)), fun _ h => h.elim, fun k hk => ?_⟩
  rcases hat with hat | ⟨b, hb, hle⟩
  · exact h5 k (hat ▸ hk)
  · rw [hb] at hk; injection hk with hk; have := h3.1; omega
end
/-! ### What Feed's walk asks of them -/
theorem Rd.ofN {w : World} {ok : Nat → Prop} {v : Value} {l : RowsL} (h : Kd.N kR 61 w 0 ok v l) : Rd w ok v l := by
  obtain ⟨A, c, rfl⟩ := Kd.N_slice h
  exact ⟨A, c, rfl, (Kd.N_reads' h).2.1, Kd.N_F h⟩
theorem AP.rd {W1 w : World} {E : Nat → Prop} {v1 v2 : Value} {l1 l2 : RowsL} (h : AP W1 E v1 l1 v2 l2 w) : Rd w (fun k => E k ∨ W1.heap.size ≤ k) v1 l1 ∧ Rd w (fun k => E k ∨ W1.heap.size ≤ k) v2 l2 := by
  obtain ⟨b, P1, P2, n1, n2, h1, h2, o1, o2⟩ := h
  exact ⟨(Rd.ofN n1).mono (fun k hk => hk.imp id (fun h => (h1 k h).1.1)), (Rd.ofN n2).mono (fun k hk => hk.imp id (fun h => (h2 k h).1))⟩
theorem XG.begin {w W w1 : World} {g : Nat} {okR okX : Nat → Prop} {R : St × RowsL × RowsL × List S43} {e : Ending} (hb : Below w.heap.size w W) (hlR : ∀ k, okR k → k < w.heap.size) (h : XAdvP W g okR okX R e w1) :
    ∃ v, e = .returned v ∧ XG w g okR okX R v w1 ∧ K3 W w1 (fun k => k = g) := by
  obtain ⟨v, vi, vo, rfl, hB, hN, hK, hv⟩ := h
  exact ⟨v, rfl, ⟨vi, vo, okR, hB, Kd.N_mono hN (fun k hk => hk.imp id (fun h => Nat.le_trans hb.size h)), (K3.of_below hb (fun k => k = g)).then_ hK (fun _ h => .inl h), fun k hk => ⟨.inl (.inl hk), fun e => by have := hv k e.symm; have := hlR k hk; have := hb.size; omega⟩, fun k hk => Nat.le_trans hb.size (hv k hk)⟩, hK⟩
section
variable {w wz w1 w2 : World} {g : Nat} {okR okX : Nat → Prop} {S : St × RowsL × RowsL × List S43} {s : St} {ri ro : RowsL} {ds : List S43} {v : Value}
theorem XG.nd (h : XG w g okR okX (s, ri, ro, ds) v wz) : Nd wz (okE w okR okX) v ds := by
  obtain ⟨vi, vo, okR', h1, h2, h3, h4, h5⟩ := h
  exact h2
theorem XG.okx (h : XG w g okR okX S v wz) (hlX : ∀ k, okX k → k < w.heap.size) : ∀ k, okX k → okE w okR okX k ∧ some k ≠ v.ownBlock := fun k hk => by
  obtain ⟨vi, vo, okR', h1, h2, h3, h4, h5⟩ := h
  exact ⟨.inl (.inr hk), fun e => by have := h5 k e.symm; have := hlX k hk; omega⟩
theorem XG.size (h : XG w g okR okX S v wz) : w.heap.size ≤ wz.heap.size := by
  obtain ⟨vi, vo, okR', h1, h2, h3, h4, h5⟩ := h
  exact h3.1
theorem XG.gown (h : XG w g okR okX S v wz) (hg : g < w.heap.size) : some g ≠ v.ownBlock := fun e => by
  obtain ⟨vi, vo, okR', h1, h2, h3, h4, h5⟩ := h
  have := h5 g e.symm; omega
/-- The rows of the state, with the blocks that they lie in. -/
theorem XG.own (h : XG w g okR okX (s, ri, ro, ds) v wz) (hlX : ∀ k, okX k → k < w.heap.size) : ∃ vi vo, ∃ E : Nat → Prop, At 53 wz g s vi vo ∧ Rd wz E vi ri ∧ Rd wz E vo ro ∧ (∀ k, okX k → E k) ∧ (∀ k, E k → k < wz.heap.size) ∧ (∀ k, E k → okE w okR okX k ∧ some k ≠ v.ownBlock) := by
  have hx := h.okx hlX
  obtain ⟨vi, vo, okR', h1, h2, h3, h4, h5⟩ := h
  exact ⟨vi, vo, fun k => okR' k ∨ okX k, h1.at_, h1.ri.mono (fun _ h => .inl h), h1.ro.mono (fun _ h => .inl h), fun _ h => .inr h, fun k hk => hk.elim (h1.lR k) (fun h => Nat.lt_of_lt_of_le (hlX k h) h3.1), fun k hk => hk.elim (h4 k) (hx k)⟩
/-- The blocks of the rows that grew. -/
theorem XG.okn {E : Nat → Prop} (h : XG w g okR okX (s, ri, ro, ds) v wz) (hE : ∀ k, E k → okE w okR okX k ∧ some k ≠ v.ownBlock) : ∀ k, (E k ∨ wz.heap.size ≤ k) → okE w okR okX k ∧ some k ≠ v.ownBlock := fun k hk => by
  have hs := h.size
  rcases hk with hk | hk
  · exact hE k hk
  · exact ⟨.inr (Nat.le_trans hs hk), fun e => by have := Kd.N_lt h.nd k e.symm; omega⟩
end
end Go.Proofs.Yteklabhmmfklbaa
namespace Go.Proofs.Yteklabhmmfklbaa
open Go.RowKit Print Go.Proofs.YteklabhmmfklbaaW.PrintWords Go.Proofs.YteklabhmmfklbaaW.PrintLast Go.Proofs.YteklabhmmfklbaaW.PrintMore
attribute [local go_sem] max2_int min2_int max_two min_two
set_option linter.unusedVariables false
set_option linter.unusedSimpArgs false
/-! ### The document's Feed -/
theorem mx_mn {now clock : Int} (hc : clock ≤ late) : mx (mn now late) clock = mn (mx now clock) late := by
  unfold mn mx; repeat' split
  all_goals omega
/-- The rows that grew, behind their region. -/
def Gone (wz : World) (E : Nat → Prop) (v1 : Value) (l1 : RowsL) (v2 : Value) (l2 : RowsL) (wx : World) : Prop :=
  Rd wx (fun k => E k ∨ wz.heap.size ≤ k) v1 l1 ∧ Rd wx (fun k => E k ∨ wz.heap.size ≤ k) v2 l2 ∧ Below wz.heap.size wz wx
theorem xadvL_keeps (f : Nat) : ∀ (s : St) (ri ro all : RowsL) (acc : List S43), ((xadvL f s ri ro all acc).1.k = s.k ∧ (xadvL f s ri ro all acc).1.n = s.n ∧ (xadvL f s ri ro all acc).1.t = s.t ∧ ((xadvL f s ri ro all acc).1.events = s.events ∨ (xadvL f s ri ro all acc).1.events = 0)) ∧ (xadvL f s ri ro all acc).2.2.2.length ≤ acc.length + f ∧
    ((xadvL f s ri ro all acc).2.1 = ri ∨ (xadvL f s ri ro all acc).2.1 = []) ∧ ((xadvL f s ri ro all acc).2.2.1 = ro ∨ (xadvL f s ri ro all acc).2.2.1 = []) := by
  induction f with
  | zero => intros; exact ⟨⟨rfl, rfl, rfl, .inl rfl⟩, Nat.le_refl _, .inl rfl, .inl rfl⟩
  | succ f ih =>
    intro s ri ro all acc
    unfold xadvL
    split
    · exact ⟨⟨rfl, rfl, rfl, .inl rfl⟩, Nat.le_add_right _ _, .inl rfl, .inl rfl⟩
    · obtain ⟨⟨h1, h2, h3, h4⟩, h5, h6, h7⟩ := ih { s with told := false, events := 0, border := if s.border + s.n ≤ s.clock ∧ (s.k ≠ 4 ∨ all.length = 0) then s.border + s.n + ((s.clock - (s.border + s.n)) / s.n + 1) * s.n else s.border + s.n } [] [] all (acc ++ endD s.k s.border ri ro all)
      refine ⟨⟨h1, h2, h3, .inr (h4.elim id id)⟩, Nat.le_trans h5 ?_, h6.elim .inr .inr, h7.elim .inr .inr⟩
      rw [List.length_append]
      have := endD_le s.k s.border ri ro all
      omega
theorem xadv_keeps (s : St) (ri ro : RowsL) (now : Int) (all : RowsL) : ((xadv s ri ro now all).1.k = s.k ∧ (xadv s ri ro now all).1.n = s.n ∧ (xadv s ri ro now all).1.t = s.t ∧ ((xadv s ri ro now all).1.events = s.events ∨ (xadv s ri ro now all).1.events = 0)) ∧ (xadv s ri ro now all).2.2.2.length ≤ 4002 ∧
    (xadv s ri ro now all).2.1.length ≤ ri.length ∧ (xadv s ri ro now all).2.2.1.length ≤ ro.length := by
  unfold xadv
  split
  · exact ⟨⟨rfl, rfl, rfl, .inl rfl⟩, by simp, Nat.le_refl _, Nat.le_refl _⟩
  · split
    · obtain ⟨h1, h5, h6, h7⟩ := xadvL_keeps FU { s with clock := mn now late } ri ro all []
      refine ⟨h1, by simpa [FU] using h5, ?_, ?_⟩
      · rcases h6 with h | h <;> rw [h] <;> simp
      · rcases h7 with h | h <;> rw [h] <;> simp
    · exact ⟨⟨rfl, rfl, rfl, .inl rfl⟩, by simp, Nat.le_refl _, Nat.le_refl _⟩
theorem AP.s1 {W1 w : World} {E : Nat → Prop} {v1 v2 : Value} {l1 l2 : RowsL} (h : AP W1 E v1 l1 v2 l2 w) : ∃ A n c, v1 = .slice A n c := by
  obtain ⟨b, P1, P2, n1, n2, h1, h2, o1, o2⟩ := h
  obtain ⟨A, c, rfl⟩ := Kd.N_slice n1
  exact ⟨A, _, c, rfl⟩
theorem xfeedG_keeps (R : St × RowsL × RowsL × List S43) (nw : Int) (xs ys : RowsL) : (xfeedG R nw xs ys).1.k = R.1.k ∧ (xfeedG R nw xs ys).1.n = R.1.n ∧ (xfeedG R nw xs ys).1.t = R.1.t ∧ (xfeedG R nw xs ys).1.events = R.1.events ∧ (xfeedG R nw xs ys).2.2.2.length ≤ R.2.2.2.length + 1 := by
  unfold xfeedG
  split
  · split
    · exact ⟨rfl, rfl, rfl, rfl, by simp⟩
    · exact ⟨rfl, rfl, rfl, rfl, Nat.le_succ _⟩
  · exact ⟨rfl, rfl, rfl, rfl, Nat.le_succ _⟩
theorem XG.k3 {w wz : World} {g : Nat} {okR okX : Nat → Prop} {S : St × RowsL × RowsL × List S43} {v : Value} (h : XG w g okR okX S v wz) : K3 w wz (fun k => k = g) := by
  obtain ⟨_, _, _, _, _, h3, _⟩ := h; exact h3
theorem XG.at_ {w wz : World} {g : Nat} {okR okX : Nat → Prop} {S : St × RowsL × RowsL × List S43} {v : Value} (h : XG w g okR okX S v wz) : ∃ vi vo, At 53 wz g S.1 vi vo := by
  obtain ⟨vi, vo, _, h1, _⟩ := h; exact ⟨vi, vo, h1.at_⟩
theorem XG.xend {w wz : World} {g : Nat} {okR okX : Nat → Prop} {s : St} {ri ro all : RowsL} {ds : List S43} {v v0 : Value} (h : XG w g okR okX (s, ri, ro, ds) v wz) (hk : s.k = 1 ∨ s.k = 2 ∨ s.k = 3 ∨ s.k = 4) (ha : Rd wz okX v0 all) (hng : ∀ k, okE w okR okX k → ¬ k = g) (hlX : ∀ k, okX k → k < w.heap.size) (hl : ds.length ≤ 100000) (at_ : Int) :
    Calls Try.prog 33 #[.pointer (some ⟨g, 0, none⟩), .int .i64 at_, v0, v] wz (XFeedP w g okR okX ({ s with told := false, events := 0 }, [], [], ds ++ endD s.k at_ ri ro all)) := by
  have hx := h.okx hlX
  have hs := h.size
  have hgR : ¬ okE w okR okX g := fun e => hng g e rfl
  have h0 := h
  obtain ⟨vi, vo, okR', h1, h2, h3, h4, h5⟩ := h
  exact (xend_any g s at_ vi vo v0 v ri ro all okR' okX (okE w okR okX) ds wz hk h1 ha h2 h4 hx (fun e => hgR (.inl (.inr e))) (fun k hk => .inr (Nat.le_trans hs hk)) hgR hl).mono (fun e w2 hE => h0.end_ hE hgR)
theorem Rd.s {w : World} {ok : Nat → Prop} {v : Value} {l : RowsL} (h : Rd w ok v l) : ∃ A n c, v = .slice A n c := by
  obtain ⟨A, c, e, _⟩ := h
  exact ⟨A, _, c, e⟩
theorem Rd.f {w : World} {ok : Nat → Prop} {A : Option Addr} {c : Nat} {l : RowsL} (h : Rd w ok (.slice A l.length c) l) : Kd.F kR w ok A l.length l := by
  obtain ⟨A', c', e, _, h2⟩ := h
  cases e
  exact h2
theorem room_4 {n : Nat} (h : n ≤ 4003) : (n + 1) * 56 ≤ 140737488355328 := by omega
set_option maxHeartbeats 8000000 in
set_option maxRecDepth 100000 in
theorem xfeed_any (g : Nat) (s : St) (vi vo v0 v1 v2 : Value) (rin rout xs ys all : RowsL) (okR okX : Nat → Prop) (now ev : Int) (w : World) (h : XB w g okR s vi vo rin rout) (hG : Good s) (hx : Rd w okX v1 xs) (hy : Rd w okX v2 ys) (ha : Rd w okX v0 all) (hgX : ¬ okX g) (hlX : ∀ k, okX k → k < w.heap.size)
    (hev : 0 ≤ s.events ∧ s.events ≤ late) (hzi : rin.length + xs.length ≤ 4194304) (hzo : rout.length + ys.length ≤ 4194304) (hmany : s.t = true → mn (mn (mx now s.clock) late) late + 1 - s.border ≤ 4002 * s.n) :
    Calls Try.prog 21 #[.pointer (some ⟨g, 0, none⟩), .int .i64 now, .int .i64 ev, .agg #[v1, v2], v0] w (XFeedP w g okR okX (xfeed s rin rout now ev xs ys all)) := by
  have hu31 := Try.underlying31
  have hu43 := Try.underlying43
  have hlt := h.at_.lt
  have hgR := h.gR
  have hlR := h.lR
  have hgb : w.heap.size ≠ g := Nat.ne_of_gt hlt
  obtain ⟨A1, c1, rfl, l1, F1⟩ := id hx
  obtain ⟨A2, c2, rfl, l2, F2⟩ := id hy
  obtain ⟨A0, c0, rfl, l0, F0⟩ := id ha
  obtain ⟨a0, a1, a2, a3, a4, a5, a6, a7, a8⟩ := h.at_.cells
  obtain ⟨m1, hm1⟩ : ∃ m1, mn now late = m1 := ⟨_, rfl⟩
  obtain ⟨nw, hnw⟩ : ∃ nw, mx m1 s.clock = nw := ⟨_, rfl⟩
  have hmx : mn (mx now s.clock) late = nw := by rw [← mx_mn hG.cl, hm1, hnw]
  have e1 : (if 1152921504606846976 < now then 1152921504606846976 else now) = m1 := hm1
  have e2 : (if s.clock < m1 then m1 else s.clock) = nw := by rw [← hnw]; unfold mx; (repeat' split) <;> omega
  rw [hmx] at hmany
  have HNG : Aside0 (∀ k, okE w okR okX k → ¬ k = g) := ⟨okE_g hlt hgR hgX⟩
  have HADV := Aside0.mk (fun W (hW : Below w.heap.size w W) => xadv_any g s vi vo (.slice A0 all.length c0) rin rout all okR okX nw W (h.below hW) hG (ha.below hW) hgX (fun k hk => Nat.lt_of_lt_of_le (hlX k hk) hW.size) hmany)
  obtain ⟨hkp, hln, hrw⟩ := xadv_keeps s rin rout nw all
  obtain ⟨⟨⟨k1, n1, t1, clock1, border1, events1, told1⟩, ri, ro, ds⟩, hR⟩ : ∃ R, xadv s rin rout nw all = R := ⟨_, rfl⟩
  rw [hR] at HADV hkp hln hrw
  simp only at hkp hln hrw
  have HKK := Aside0.mk (show k1 = 0 ∨ k1 = 1 ∨ k1 = 2 ∨ k1 = 3 ∨ k1 = 4 by rw [hkp.1]; exact hG.k0)
  have HLN := Aside0.mk hln
  have HEV : Aside0 (0 ≤ events1 ∧ events1 ≤ 1152921504606846976) := ⟨by rcases hkp.2.2.2 with e | e <;> rw [e] <;> unfold late at hev <;> omega⟩
  have HZ : Aside0 (ri.length + xs.length ≤ 4194304 ∧ ro.length + ys.length ≤ 4194304) := ⟨by omega⟩
  have HFD : Aside0 (xfeed s rin rout now ev xs ys all = xfeedR (⟨k1, n1, t1, clock1, border1, events1, told1⟩, ri, ro, ds) nw ev xs ys all) := ⟨by unfold xfeed; rw [hmx, hR]⟩
  have HXY := Aside0.mk (fun W (hK : K3 w W (fun k => k = g)) => And.intro (hx.kept hK (fun k hk e => hgX (e ▸ hk))) (And.intro (hy.kept hK (fun k hk e => hgX (e ▸ hk))) (ha.kept hK (fun k hk e => hgX (e ▸ hk)))))
  have HLX := Aside0.mk (And.intro hlX (And.intro hlR hgX))
  have HLT := Aside0.mk hlt
  clear h hx hy ha hgX hlX hgR hlR F0 F1 F2 l0 l1 l2 hkp hln hrw hm1 hnw hmx hmany hR hev hzi hzo
  rw [HFD.out]
  go_enter Try.func21, Try.ntmps21
  go_upto_region 3 with (first | (go_at_call 20; (with_reducible refine (HADV.out _ (below_alloc (Below.refl _ _) _)).mono ?_); rintro e w1 hP; obtain ⟨v, rfl, hXG, hK1⟩ := XG.begin (below_alloc (Below.refl _ _) _) HLX.out.2.1 hP; have hbx : w1.heap[w.heap.size]? = some (.cells #[.slice A1 xs.length c1, .slice A2 ys.length c2] 31 (0, 0)) := K3.blk (by simpa using heap_alloc_new w _) hK1 hgb; have HBX := Aside0.mk hbx; obtain ⟨A3, c3, rfl⟩ := Kd.N_slice hXG.nd; have HXG := Aside0.mk hXG; clear hP hXG hK1 hbx))
  have HK1 : Aside0 (K3 w w1 (fun k => k = g)) := ⟨by obtain ⟨_, _, _, _, _, h3, _⟩ := HXG.out; exact h3⟩
  have HWS : Aside0 (w.heap.size < w1.heap.size) := ⟨(Array.getElem?_eq_some_iff.1 HBX.out).1⟩
  have hws := HWS.out
  have HROW := Aside0.mk (fun W (hW : Below w1.heap.size w1 W) => HXY.out W (HK1.out.below hW))
  obtain ⟨vi1, vo1, E, hA1, hr1, hr2, hE1, hE2, hE3⟩ := HXG.out.own HLX.out.1
  obtain ⟨B1, d1, rfl, lb1, G1⟩ := id hr1
  obtain ⟨B2, d2, rfl, lb2, G2⟩ := id hr2
  have z0 : w1.cell? ⟨w.heap.size, 0, none⟩ = some (.slice A1 xs.length c1) := (blk_cell HBX.out 0).trans rfl
  have z1 : w1.cell? ⟨w.heap.size, 1, none⟩ = some (.slice A2 ys.length c2) := (blk_cell HBX.out 1).trans rfl
  clear a0 a1 a2 a3 a4 a5 a6 a7 a8 HADV HFD e1 e2
  obtain ⟨a0, a1, a2, a3, a4, a5, a6, a7, a8⟩ := hA1.cells
  have HE := Aside0.mk (And.intro hE1 (And.intro hE2 hE3))
  have HRR := Aside0.mk (And.intro hr1 hr2)
  have HAT := Aside0.mk hA1
  have HLT := Aside0.mk hlt
  have HBN := Aside0.mk (Below.refl w1.heap.size w1)
  clear hr1 hr2 lb1 lb2 G1 G2 hE1 hE2 hE3 hA1
  obtain ⟨sb, hsb⟩ : ∃ sb, decide (0 < xs.length + ys.length) = sb := ⟨_, rfl⟩
  have HSM := Aside0.mk (fun W (hW : Below w1.heap.size w1 W) => xrows_any W (HROW.out W hW).1 (HROW.out W hW).2.1 sb hsb)
  have HSB := Aside0.mk hsb
  clear hsb
  by_cases k0 : k1 = 0
  · subst k0
    have HXR : Aside0 (xfeedR (⟨0, n1, t1, clock1, border1, events1, told1⟩, ri, ro, ds) nw ev xs ys all = (⟨0, n1, t1, clock1, border1, events1, told1⟩, ri, ro, if 0 < xs.length + ys.length then ds ++ [⟨nw, ⟨xs, ys⟩⟩] else ds)) := ⟨by unfold xfeedR; rw [if_pos rfl]⟩
    cases sb
    · rw [if_neg (of_decide_eq_false HSB.out)] at HXR
      go_wp2_with (first | (go_at_call 34; refine (HSM.out _ HBN.out).mono ?_; rintro e w2 ⟨rfl, hb⟩; have hx2 := (hb.block _ HWS.out).trans HBX.out; have z0 : w2.cell? ⟨w.heap.size, 0, none⟩ = some (.slice A1 xs.length c1) := (blk_cell hx2 0).trans rfl; have z1 : w2.cell? ⟨w.heap.size, 1, none⟩ = some (.slice A2 ys.length c2) := (blk_cell hx2 1).trans rfl; have HB2 := Aside0.mk hb; clear hb hx2))
      go_ret
      exact ⟨_, rfl, by rw [HXR.out]; exact HXG.out.below HB2.out⟩
    · rw [if_pos (of_decide_eq_true HSB.out)] at HXR
      go_wp2_with (first | (go_at_call 34; refine (HSM.out _ HBN.out).mono ?_; rintro e w2 ⟨rfl, hb⟩; have hx2 := (hb.block _ HWS.out).trans HBX.out; have z0 : w2.cell? ⟨w.heap.size, 0, none⟩ = some (.slice A1 xs.length c1) := (blk_cell hx2 0).trans rfl; have z1 : w2.cell? ⟨w.heap.size, 1, none⟩ = some (.slice A2 ys.length c2) := (blk_cell hx2 1).trans rfl; have HB2 := Aside0.mk hb; clear hb hx2) | ((with_reducible refine gate_builtin (b := .append) (xs := #[.tmp 33, .tmp 37]) rfl ?_); at_builtin; refine Kd.N_append k43 (W := w2) (w0 := w2) 0 rfl (.tmp 33) (.tmp 37) 35 43 (.agg #[.int .i64 0, .slice none 0 0, .slice none 0 0]) 56 rfl Try.underlying35 info43 rfl (by decide) (by decide) (.slice A3 ds.length c3) ds (⟨nw, ⟨xs, ys⟩⟩ : S43) [.int .i64 nw, .slice A1 xs.length c1, .slice A2 ys.length c2] (okE w okR okX) okX rfl rfl ?_ ((HXG.out.below HB2.out).okx HLX.out.1) ?_ (HXG.out.below HB2.out).nd (Below.refl _ _) (Nat.zero_le _) (room_4 (Nat.le_succ_of_le HLN.out)) ?_; (· exact fk43 (HROW.out _ HB2.out).1 (HROW.out _ HB2.out).2.1); (· exact fun k hk => .inr (Nat.le_trans (HXG.out.below HB2.out).size hk)); intro v5 w5 ho hb5 hg5 hat5; obtain ⟨A5, c5, rfl⟩ := Kd.N_slice ho; rw [List.length_append, List.length_singleton] at ho hat5 ⊢; have HM := Aside0.mk ((HXG.out.below HB2.out).app ((HXG.out.below HB2.out).gown HLT.out) ho hg5 hat5); clear ho hb5 hg5 hat5))
      go_ret
      exact ⟨_, rfl, by rw [HXR.out]; exact HM.out⟩
  · have e0 : (k1 == 0) = false := by simpa using k0
    have HK0 := Aside0.mk k0
    clear k0
    go_upto_region 8 with (fail)
    go_cut [12, 13] (fun s12 s13 wx => Aside0 (Gone w1 E s12 (ri ++ xs) s13 (ro ++ ys) wx))
    case first =>
      clear HSM HSB HXG
      have HAP : Aside0 (AP w1 E nilV [] nilV [] w1.drew) := ⟨(AP.begin w1 E).below (below_drew (Below.refl _ _))⟩
      have HSL : Aside0 (∀ W, Below w1.heap.size w1 W → W.cell? ⟨g, 6, none⟩ = some (.slice B1 ri.length d1) ∧ W.cell? ⟨g, 7, none⟩ = some (.slice B2 ro.length d2) ∧ W.cell? ⟨w.heap.size, 0, none⟩ = some (.slice A1 xs.length c1) ∧ W.cell? ⟨w.heap.size, 1, none⟩ = some (.slice A2 ys.length c2)) := ⟨fun W hW => by
        obtain ⟨b0, b1, b2, b3, b4, b5, b6, b7, b8⟩ := (HAT.out.below hW).cells
        have hx2 := (hW.block _ HWS.out).trans HBX.out
        exact ⟨b6, b7, (blk_cell hx2 0).trans rfl, (blk_cell hx2 1).trans rfl⟩⟩
      go_region_held3 (fun w' => w'.cell? ⟨g, 6, none⟩ = some (.slice B1 ri.length d1) ∧ w'.cell? ⟨g, 7, none⟩ = some (.slice B2 ro.length d2) ∧ w'.cell? ⟨w.heap.size, 0, none⟩ = some (.slice A1 xs.length c1) ∧ w'.cell? ⟨w.heap.size, 1, none⟩ = some (.slice A2 ys.length c2))
        (first | exact HSL.out _ HAP.out.b | go_keep)
        (first | (refine ap1_step HAP.out HE.out.2.1 rfl (.tmp 40) (.tmp 45) rfl rfl rfl (Rd.f (HRR.out.1.below HAP.out.b)) ?_ ?_; (· have := HZ.out; show _ ≤ 4194304; simp only [List.nil_append, List.length_nil, List.length_append]; omega); intro v7 w7 hap; obtain ⟨A7, n7, c7, rfl⟩ := hap.s1; have HAP := Aside0.mk hap; clear hap) | (refine ap2_step HAP.out HE.out.2.1 rfl (.tmp 50) (.tmp 55) rfl rfl rfl (Rd.f (HRR.out.2.below HAP.out.b)) ?_ ?_; (· have := HZ.out; show _ ≤ 4194304; simp only [List.nil_append, List.length_nil, List.length_append]; omega); intro v8 w8 hap; obtain ⟨A8, n8, c8, rfl⟩ := hap.swap.s1; have HAP := Aside0.mk hap; clear hap) | (refine ap1_step HAP.out HE.out.2.1 rfl (.tmp 46) (.tmp 48) rfl rfl rfl (Kd.F_mono (Rd.f (HROW.out _ HAP.out.b).1) HE.out.1) ?_ ?_; (· have := HZ.out; show _ ≤ 4194304; simp only [List.nil_append, List.length_nil, List.length_append]; omega); intro v7 w7 hap; obtain ⟨A7, n7, c7, rfl⟩ := hap.s1; have HAP := Aside0.mk hap; clear hap) | (refine ap2_step HAP.out HE.out.2.1 rfl (.tmp 56) (.tmp 58) rfl rfl rfl (Kd.F_mono (Rd.f (HROW.out _ HAP.out.b).2.1) HE.out.1) ?_ ?_; (· have := HZ.out; show _ ≤ 4194304; simp only [List.nil_append, List.length_nil, List.length_append]; omega); intro v8 w8 hap; obtain ⟨A8, n8, c8, rfl⟩ := hap.swap.s1; have HAP := Aside0.mk hap; clear hap))
      all_goals
        go_wp2_with fail
        go_meet
        case rel => exact ⟨HAP.out.rd.1, HAP.out.rd.2, HAP.out.b⟩
    case rest =>
      obtain ⟨hn1, hn2, hnb⟩ := hcut.out
      obtain ⟨D1, q1, p1, rfl⟩ := hn1.s
      obtain ⟨D2, q2, p2, rfl⟩ := hn2.s
      have HNN := Aside0.mk (And.intro hn1 hn2)
      have HXC := Aside0.mk (HXG.out.below hnb)
      have HOKN := Aside0.mk (HXG.out.okn HE.out.2.2)
      have HATC := Aside0.mk (HAT.out.below hnb)
      have HBC := Aside0.mk hnb
      have hx2 := (hnb.block _ HWS.out).trans HBX.out
      have HBXC := Aside0.mk hx2
      have hwc : w.heap.size < wc.heap.size := Nat.lt_of_lt_of_le hws hnb.size
      clear z0 z1 a0 a1 a2 a3 a4 a5 a6 a7 a8 hcut hn1 hn2 hnb hx2 HAT HRR HXG HBX
      obtain ⟨a0, a1, a2, a3, a4, a5, a6, a7, a8⟩ := HATC.out.cells
      have f6 := HATC.out.frozen 6
      have f7 := HATC.out.frozen 7
      go_upto_block 0 with (fail)
      go_cut [11] (fun s11 wz => s11 = .slice A3 ds.length c3 ∧ Aside0 (XG w g okR okX (⟨k1, n1, t1, clock1, border1, events1, told1⟩, xgat k1 ri xs, xgat k1 ro ys, ds) (.slice A3 ds.length c3) wz ∧ K3 wc wz (fun k => k = g)))
      case first =>
        rcases (show k1 = 1 ∨ k1 = 3 ∨ (k1 = 2 ∨ k1 = 4) by have := HKK.out; have := HK0.out; omega) with rfl | rfl | hk
        · have HGI : Aside0 (∀ o n : RowsL, xgat 1 o n = o ++ n) := ⟨fun o n => by unfold xgat; rw [if_pos rfl]⟩
          go_wp2_with fail
          go_meet
          case rel => exact ⟨rfl, ⟨by rw [HGI.out, HGI.out]; exact HXC.out.rows HNG.out HNN.out.1 HNN.out.2 HOKN.out, ((K3.refl wc (fun k => k = g)).setCell (p := ⟨g, 6, none⟩) (.inl rfl) _).setCell (p := ⟨g, 7, none⟩) (.inl rfl) _⟩⟩
        · have HGI : Aside0 (∀ o n : RowsL, xgat 3 o n = xlast (o ++ n)) := ⟨fun o n => by unfold xgat; rw [if_neg (by decide), if_pos rfl]⟩
          have HL1 := Aside0.mk (fun W (hW : Below wc.heap.size wc W) => xlast_any W (HNN.out.1.below hW))
          have HL2 := Aside0.mk (fun W (hW : Below wc.heap.size wc W) => xlast_any W (HNN.out.2.below hW))
          have HB0 := Aside0.mk (Below.refl wc.heap.size wc)
          go_wp2_with (first | (go_at_call_of 35 (Value.slice D1 q1 p1); refine (HL1.out _ HB0.out).mono ?_; rintro e w3 ⟨v3, rfl, hR3, hb3⟩; obtain ⟨A6, n6, c6, rfl⟩ := hR3.s; have HR3 := Aside0.mk hR3; have HB3 := Aside0.mk hb3; clear hR3 hb3) | (go_at_call_of 35 (Value.slice D2 q2 p2); refine (HL2.out _ HB3.out).mono ?_; rintro e w4 ⟨v4, rfl, hR4, hb4⟩; obtain ⟨A7, n7, c7, rfl⟩ := hR4.s; have HR4 := Aside0.mk hR4; have HB4 := Aside0.mk (below_step HB3.out hb4); have HR3' := Aside0.mk (HR3.out.below hb4); obtain ⟨b0, b1, b2, b3, b4, b5, b6, b7, b8⟩ := (HATC.out.below HB4.out).cells; have g6 := (HATC.out.below HB4.out).frozen 6; have g7 := (HATC.out.below HB4.out).frozen 7; clear hR4 hb4))
          go_meet
          case rel => exact ⟨rfl, ⟨by rw [HGI.out, HGI.out]; exact (HXC.out.below HB4.out).rows HNG.out HR3'.out HR4.out HOKN.out, (((K3.of_below HB4.out (fun k => k = g)).setCell (p := ⟨g, 6, none⟩) (.inl rfl) _).setCell (p := ⟨g, 7, none⟩) (.inl rfl) _)⟩⟩
        · have HGI : Aside0 (∀ o n : RowsL, xgat k1 o n = o) := ⟨fun o n => by unfold xgat; rw [if_neg (by omega), if_neg (by omega)]⟩
          have h1 : (k1 == 1) = false := by simp; omega
          have h3 : (k1 == 3) = false := by simp; omega
          clear hk
          go_wp2_with fail
          go_meet
          case rel => exact ⟨rfl, ⟨by rw [HGI.out, HGI.out]; exact HXC.out, K3.refl _ _⟩⟩
      case rest =>
        obtain ⟨rfl, hcx⟩ := hcut
        obtain ⟨hxg, hk4⟩ := hcx.out
        have hx2 := K3.blk HBXC.out hk4 hgb
        have HBX := Aside0.mk hx2
        have hwc2 : w.heap.size < wc.heap.size := Nat.lt_of_lt_of_le hwc hk4.1
        have HWS := Aside0.mk hwc2
        have HXG := Aside0.mk hxg
        clear a0 a1 a2 a3 a4 a5 a6 a7 a8 f6 f7 hcx hxg hk4 hx2 HXC HATC HBXC HBC HNN HOKN HBN HSM HK1 HROW hwc hws
        obtain ⟨vi3, vo3, hA3⟩ := HXG.out.at_
        obtain ⟨a0, a1, a2, a3, a4, a5, a6, a7, a8⟩ := hA3.cells
        have z0 : wc.cell? ⟨w.heap.size, 0, none⟩ = some (.slice A1 xs.length c1) := (blk_cell HBX.out 0).trans rfl
        have z1 : wc.cell? ⟨w.heap.size, 1, none⟩ = some (.slice A2 ys.length c2) := (blk_cell HBX.out 1).trans rfl
        have HBN := Aside0.mk (Below.refl wc.heap.size wc)
        have HSM := Aside0.mk (fun W (hW : Below wc.heap.size wc W) => xrows_any W (HXY.out W (HXG.out.below hW).k3).1 (HXY.out W (HXG.out.below hW).k3).2.1 sb HSB.out)
        clear hA3
        go_upto_region 14 with (fail)
        go_cut [99] (fun s99 wz => s99 = .bool (decide (k1 = 2 ∧ 0 < xs.length + ys.length ∧ told1 = false)) ∧ Aside0 (XG w g okR okX (⟨k1, n1, t1, clock1, border1, events1, told1⟩, xgat k1 ri xs, xgat k1 ro ys, ds) (.slice A3 ds.length c3) wz ∧ K3 wc wz (fun k => k = g)))
        case first =>
          by_cases k2 : k1 = 2
          · cases sb
            · have hE0 : decide (k1 = 2 ∧ 0 < xs.length + ys.length ∧ told1 = false) = false := decide_eq_false (fun h => of_decide_eq_false HSB.out h.2.1)
              have HE0 := Aside0.mk hE0
              have e2 : (k1 == 2) = true := by simpa using k2
              clear hE0 k2
              go_wp2_with (first | (go_at_call 34; refine (HSM.out _ HBN.out).mono ?_; rintro e w2 ⟨rfl, hb⟩; have HX2 := Aside0.mk (And.intro (HXG.out.below hb) (K3.of_below hb (fun k => k = g))); obtain ⟨vj, vp, hj⟩ := HX2.out.1.at_; obtain ⟨b0, b1, b2, b3, b4, b5, b6, b7, b8⟩ := hj.cells; clear hb hj))
              go_meet
              case rel => exact ⟨by rw [HE0.out], ⟨HX2.out⟩⟩
            · have hE0 : decide (k1 = 2 ∧ 0 < xs.length + ys.length ∧ told1 = false) = !told1 := by cases told1 <;> simp [k2, of_decide_eq_true HSB.out]
              have HE0 := Aside0.mk hE0
              have e2 : (k1 == 2) = true := by simpa using k2
              clear hE0 k2
              go_wp2_with (first | (go_at_call 34; refine (HSM.out _ HBN.out).mono ?_; rintro e w2 ⟨rfl, hb⟩; have HX2 := Aside0.mk (And.intro (HXG.out.below hb) (K3.of_below hb (fun k => k = g))); obtain ⟨vj, vp, hj⟩ := HX2.out.1.at_; obtain ⟨b0, b1, b2, b3, b4, b5, b6, b7, b8⟩ := hj.cells; clear hb hj))
              go_meet
              case rel => exact ⟨by rw [HE0.out], ⟨HX2.out⟩⟩
          · have hE0 : decide (k1 = 2 ∧ 0 < xs.length + ys.length ∧ told1 = false) = false := decide_eq_false (fun h => k2 h.1)
            have HE0 := Aside0.mk hE0
            have e2 : (k1 == 2) = false := by simpa using k2
            clear hE0 k2
            go_wp2_with fail
            go_meet
            case rel => exact ⟨by rw [HE0.out], ⟨HXG.out, K3.refl _ _⟩⟩
        case rest =>
          obtain ⟨rfl, hcx⟩ := hcut
          have hx2 := K3.blk HBX.out hcx.out.2 hgb
          have hwc3 : w.heap.size < wc.heap.size := Nat.lt_of_lt_of_le hwc2 hcx.out.2.1
          have HXG := hcx
          clear a0 a1 a2 a3 a4 a5 a6 a7 a8 HBX hwc2 HWS z0 z1 hcx HSM HBN
          obtain ⟨vi4, vo4, hA4⟩ := HXG.out.1.at_
          obtain ⟨a0, a1, a2, a3, a4, a5, a6, a7, a8⟩ := hA4.cells
          have g8 := hA4.frozen 8
          have z0 : wc.cell? ⟨w.heap.size, 0, none⟩ = some (.slice A1 xs.length c1) := (blk_cell hx2 0).trans rfl
          have z1 : wc.cell? ⟨w.heap.size, 1, none⟩ = some (.slice A2 ys.length c2) := (blk_cell hx2 1).trans rfl
          clear hA4 hx2
          go_upto_if 99 with (fail)
          go_cut [11] (fun s11 wz => Aside0 (XG w g okR okX (xfeedG (⟨k1, n1, t1, clock1, border1, events1, told1⟩, ri, ro, ds) nw xs ys) s11 wz))
          case first =>
            have HXE : Aside0 (xfeedG (⟨k1, n1, t1, clock1, border1, events1, told1⟩, ri, ro, ds) nw xs ys = if k1 = 2 ∧ 0 < xs.length + ys.length ∧ told1 = false then (⟨k1, n1, t1, clock1, border1, events1, true⟩, xgat k1 ri xs, xgat k1 ro ys, ds ++ [⟨nw, ⟨xs, ys⟩⟩]) else (⟨k1, n1, t1, clock1, border1, events1, told1⟩, xgat k1 ri xs, xgat k1 ro ys, ds)) := ⟨by
              unfold xfeedG
              by_cases k2 : k1 = 2
              · subst k2
                have h2 : ∀ o n : RowsL, xgat 2 o n = o := fun o n => by unfold xgat; rw [if_neg (by decide), if_neg (by decide)]
                rw [if_pos rfl, h2, h2]
                by_cases hc : 0 < xs.length + ys.length ∧ told1 = false
                · rw [if_pos hc, if_pos ⟨rfl, hc⟩]
                · rw [if_neg hc, if_neg (fun h => hc h.2)]
              · rw [if_neg k2, if_neg (fun h => k2 h.1)]⟩
            by_cases hc : k1 = 2 ∧ 0 < xs.length + ys.length ∧ told1 = false
            · rw [if_pos hc] at HXE
              rw [decide_eq_true hc]
              clear hc
              go_wp2_with (first | ((with_reducible refine gate_builtin (b := .append) (xs := #[.tmp 103, .tmp 107]) rfl ?_); at_builtin; refine Kd.N_append k43 (W := wc.setCell ⟨g, 8, none⟩ (.bool true)) (w0 := wc.setCell ⟨g, 8, none⟩ (.bool true)) 0 rfl (.tmp 103) (.tmp 107) 35 43 (.agg #[.int .i64 0, .slice none 0 0, .slice none 0 0]) 56 rfl Try.underlying35 info43 rfl (by decide) (by decide) (.slice A3 ds.length c3) ds (⟨nw, ⟨xs, ys⟩⟩ : S43) [.int .i64 nw, .slice A1 xs.length c1, .slice A2 ys.length c2] (okE w okR okX) okX rfl (by rw [setCell_size]; rfl) ?_ ((HXG.out.1.told HNG.out).okx HLX.out.1) ?_ (HXG.out.1.told HNG.out).nd (Below.refl _ _) (Nat.zero_le _) (room_4 (Nat.le_succ_of_le HLN.out)) ?_; (· exact fk43 (HXY.out _ (HXG.out.1.told HNG.out).k3).1 (HXY.out _ (HXG.out.1.told HNG.out).k3).2.1); (· exact fun k hk => .inr (Nat.le_trans (HXG.out.1.told HNG.out).size hk)); intro v5 w5 ho hb5 hg5 hat5; obtain ⟨A5, c5, rfl⟩ := Kd.N_slice ho; rw [List.length_append, List.length_singleton] at ho hat5 ⊢; have HM := Aside0.mk ((HXG.out.1.told HNG.out).app ((HXG.out.1.told HNG.out).gown HLT.out) ho hg5 hat5); clear ho hb5 hg5 hat5))
              go_meet
              case rel => exact ⟨by rw [HXE.out]; exact HM.out⟩
            · rw [if_neg hc] at HXE
              rw [decide_eq_false hc]
              clear hc
              go_wp2_with fail
              go_meet
              case rel => exact ⟨by rw [HXE.out]; exact HXG.out.1⟩
          case rest =>
            have HXR : Aside0 (xfeedR (⟨k1, n1, t1, clock1, border1, events1, told1⟩, ri, ro, ds) nw ev xs ys all = feedE (xfeedG (⟨k1, n1, t1, clock1, border1, events1, told1⟩, ri, ro, ds) nw xs ys) nw ev all) := ⟨by unfold xfeedR; rw [if_neg HK0.out]⟩
            have hgk := xfeedG_keeps (⟨k1, n1, t1, clock1, border1, events1, told1⟩, ri, ro, ds) nw xs ys
            obtain ⟨⟨⟨k2, n2, t2, clock2, border2, events2, told2⟩, ri2, ro2, ds2⟩, hS⟩ : ∃ S, xfeedG (⟨k1, n1, t1, clock1, border1, events1, told1⟩, ri, ro, ds) nw xs ys = S := ⟨_, rfl⟩
            rw [hS] at hgk hcut HXR
            simp only at hgk
            have HEQ : Aside0 (xfeedR (⟨k1, n1, t1, clock1, border1, events1, told1⟩, ri, ro, ds) nw ev xs ys all = xfeedR (⟨k1, n1, t1, clock1, border1, events1, told1⟩, ri, ro, ds) nw ev xs ys all) := ⟨rfl⟩
            obtain ⟨e1, e2, e3, e4, hl2⟩ := hgk
            have HL2 := Aside0.mk (show ds2.length ≤ 4003 by have := HLN.out; omega)
            have HKX := Aside0.mk (show k2 = 1 ∨ k2 = 2 ∨ k2 = 3 ∨ k2 = 4 by have h1 := HKK.out; have h2 := HK0.out; omega)
            have HEV2 := Aside0.mk (show 0 ≤ events2 ∧ events2 ≤ 1152921504606846976 by rw [e4]; exact HEV.out)
            have HXF := hcut
            clear a0 a1 a2 a3 a4 a5 a6 a7 a8 g8 z0 z1 HXG hcut hS hl2 e1 e2 e3 e4 e0 HKK HEV HLN HZ HK0
            obtain ⟨A4, c4, rfl⟩ := Kd.N_slice HXF.out.nd
            obtain ⟨vi5, vo5, hA5⟩ := HXF.out.at_
            obtain ⟨a0, a1, a2, a3, a4, a5, a6, a7, a8⟩ := hA5.cells
            have f5 := hA5.frozen 5
            clear hA5
            cases t2
            · have hev := HEV2.out
              obtain ⟨m3, hm3⟩ : ∃ m3, mn ev late = m3 := ⟨_, rfl⟩
              have x3 : (if 1152921504606846976 < ev then 1152921504606846976 else ev) = m3 := hm3
              obtain ⟨m4, x4⟩ : ∃ m4, (if 0 < m3 then m3 else 0) = m4 := ⟨_, rfl⟩
              have hm4 : mn (mx ev 0) late = m4 := by rw [← x4, ← x3]; unfold mn mx late; (repeat' split) <;> omega
              have b3 : m3 ≤ 1152921504606846976 := by rw [← x3]; split <;> omega
              have b4 : 0 ≤ m4 ∧ m4 ≤ 1152921504606846976 := by rw [← x4]; split <;> omega
              obtain ⟨m5, hm5⟩ : ∃ m5, mn (events2 + m4) late = m5 := ⟨_, rfl⟩
              have x5 : (if events2 + m4 < 1152921504606846976 then events2 + m4 else 1152921504606846976) = m5 := by rw [← hm5]; unfold mn late; (repeat' split) <;> omega
              have HE0 : Aside0 (feedE (⟨k2, n2, false, clock2, border2, events2, told2⟩, ri2, ro2, ds2) nw ev all = if n2 ≤ m5 then (⟨k2, n2, false, clock2, border2, 0, false⟩, [], [], ds2 ++ endD k2 nw ri2 ro2 all) else (⟨k2, n2, false, clock2, border2, m5, told2⟩, ri2, ro2, ds2)) := ⟨by unfold feedE; rw [if_neg (show ¬ (false = true) by decide), hm4, hm5]⟩
              have HEV5 := Aside0.mk (HXF.out.events HNG.out m5)
              clear hm3 hm4 hm5
              by_cases hge : n2 ≤ m5
              · rw [if_pos hge] at HE0
                have d5 : decide (n2 ≤ m5) = true := decide_eq_true hge
                have HEND := Aside0.mk (fun W (hW : Below (wc.setCell ⟨g, 5, none⟩ (.int .i64 m5)).heap.size (wc.setCell ⟨g, 5, none⟩ (.int .i64 m5)) W) => (HEV5.out.below hW).xend HKX.out (HXY.out W (HEV5.out.below hW).k3).2.2 HNG.out HLX.out.1 (by have := HL2.out; omega) nw)
                clear hge HEV5
                go_wp2
                go_quiet (fail)
                go_wp2_with (first | (go_at_call 33; (with_reducible refine (HEND.out _ (pw_below_drewN (Below.refl _ _) _)).mono ?_); rintro e w6 ⟨v6, rfl, hX6⟩; have HX6 := Aside0.mk hX6; clear hX6))
                go_ret
                exact ⟨_, rfl, by rw [HXR.out, HE0.out]; exact HX6.out⟩
              · rw [if_neg hge] at HE0
                have d5 : decide (n2 ≤ m5) = false := decide_eq_false hge
                clear hge
                go_wp2
                go_quiet (fail)
                go_wp2
                go_ret
                exact ⟨_, rfl, by rw [HXR.out, HE0.out]; exact HEV5.out.below (pw_below_drewN (Below.refl _ _) _)⟩
            · have HE0 : Aside0 (feedE (⟨k2, n2, true, clock2, border2, events2, told2⟩, ri2, ro2, ds2) nw ev all = (⟨k2, n2, true, clock2, border2, events2, told2⟩, ri2, ro2, ds2)) := ⟨by unfold feedE; rw [if_pos rfl]⟩
              go_wp2
              go_ret
              exact ⟨_, rfl, by rw [HXR.out, HE0.out]; exact HXF.out⟩
end Go.Proofs.Yteklabhmmfklbaa
