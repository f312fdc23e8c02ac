import Derived.Test.YteklabhmmfklbaaMgK
namespace Go.Proofs.Yteklabhmmfklbaa
open Go.RowKit Print Go.Proofs.YteklabhmmfklbaaW.PrintWords Go.Proofs.YteklabhmmfklbaaW.PrintLast Go.Proofs.YteklabhmmfklbaaW.PrintMore
set_option linter.unusedVariables false
abbrev nilV : Value := .slice none 0 0
/-- What an interval's end leaves: the rows are let go; what is told lies in a block of its own. -/
def EndP (w : World) (g : Nat) (s : St) (at_ : Int) (vi vo : Value) (tell : Bool) (e : Ending) (w' : World) : Prop :=
  At 59 w' g { s with told := false } nilV nilV ∧ K3 w w' (fun k => k = g) ∧
    (if tell = true then ∃ b, w.heap.size ≤ b ∧ e = .returned (.slice (some ⟨b, 0, none⟩) 1 1) ∧ w'.heap[b]? = some (.cells #[.int .i64 at_, vi, vo] 43 (0, 0)) else e = .returned nilV)
theorem blk_alloc {ty : Nat} {w : World} {g : Nat} {s : St} {vi vo : Value} (h : At ty w g s vi vo) (o : Obj) : At ty (w.alloc o) g s vi vo := h.below (below_alloc (Below.refl _ _) o)
theorem end_at {ty : Nat} {w : World} {g : Nat} {s : St} {vi vo : Value} (h : At ty w g s vi vo) :
    At ty (((w.setCell ⟨g, 6, none⟩ nilV).setCell ⟨g, 7, none⟩ nilV).setCell ⟨g, 8, none⟩ (.bool false)) g { s with told := false } nilV nilV := by
  have := blk_set (blk_set (blk_set h 6 nilV) 7 nilV) 8 (.bool false)
  simpa [At, cellsP] using this
set_option maxHeartbeats 1000000 in
set_option maxRecDepth 100000 in
theorem end_tell (g : Nat) (s : St) (at_ : Int) (A0 : Option Addr) (n0 c0 : Nat) (A1 : Option Addr) (n1 c1 : Nat) (A2 : Option Addr) (n2 c2 : Nat) (w : World) (hk : s.k = 1 ∨ s.k = 3)
    (h : At 59 w g s (.slice A0 n0 c0) (.slice A1 n1 c1)) (h0 : n0 ≤ 4398046511104) (h1 : n1 ≤ 4398046511104) :
    Calls Try.prog 30 #[.pointer (some ⟨g, 0, none⟩), .int .i64 at_, .slice A2 n2 c2] w (EndP w g s at_ (.slice A0 n0 c0) (.slice A1 n1 c1) (decide (0 < n0 + n1))) := by
  have hu31 := Try.underlying31
  have hu43 := Try.underlying43
  have HA := Aside0.mk h
  have hlt := h.lt
  obtain ⟨a0, a1, a2, a3, a4, a5, a6, a7, a8⟩ := h.cells
  have f6 := h.frozen 6
  have f7 := h.frozen 7
  have f8 := h.frozen 8
  clear h
  obtain ⟨b, hb⟩ : ∃ b, decide (0 < n0 + n1) = b := ⟨_, rfl⟩
  rw [hb]
  have SM := fun W => some_any A0 n0 c0 A1 n1 c1 b W h0 h1 hb
  have HSM := Aside0.mk SM
  clear SM hb
  obtain ⟨k, n, t, clock, border, events, told⟩ := s
  rcases hk with hk | hk <;> (simp only at hk; subst hk)
  all_goals
    cases b
    all_goals
      go_enter Try.func30, Try.ntmps30
      go_wp2_with (first | (go_at_call 28; (with_reducible refine (HSM.out _).mono ?_); rintro e w1 ⟨rfl, hb⟩; have hc0 := pw_cell_below hb (a := ⟨w.heap.size, 0, none⟩) (v := .slice A0 n0 c0) (by go_simp); have hc1 := pw_cell_below hb (a := ⟨w.heap.size, 1, none⟩) (v := .slice A1 n1 c1) (by go_simp); have HB := Aside0.mk hb; clear hb))
      go_ret
      have HT := end_at HA.out
      have HK := ((((K3.refl w (fun k => k = g)).setCell (p := ⟨g, 6, none⟩) (.inl rfl) nilV).setCell (p := ⟨g, 7, none⟩) (.inl rfl) nilV).setCell (p := ⟨g, 8, none⟩) (.inl rfl) (.bool false)).alloc (.cells #[.slice A0 n0 c0, .slice A1 n1 c1] 31) |>.below HB.out
      have HT1 : At 59 w1 g _ nilV nilV := (blk_alloc HT _).below HB.out
      first
      | exact ⟨HT1, HK, rfl⟩
      | exact ⟨blk_alloc HT1 _, HK.alloc _, w1.heap.size, HK.1, rfl, by simpa using heap_alloc_new w1 _⟩
set_option maxHeartbeats 1000000 in
set_option maxRecDepth 100000 in
theorem end_none (g : Nat) (s : St) (at_ : Int) (vi vo : Value) (A2 : Option Addr) (n2 c2 : Nat) (w : World) (hk : s.k = 2) (h : At 59 w g s vi vo) :
    Calls Try.prog 30 #[.pointer (some ⟨g, 0, none⟩), .int .i64 at_, .slice A2 n2 c2] w (EndP w g s at_ vi vo false) := by
  have hu31 := Try.underlying31
  have hu43 := Try.underlying43
  have HA := Aside0.mk h
  have hlt := h.lt
  obtain ⟨a0, a1, a2, a3, a4, a5, a6, a7, a8⟩ := h.cells
  have f6 := h.frozen 6
  have f7 := h.frozen 7
  have f8 := h.frozen 8
  clear h
  have HSM := Aside0.mk (fun W => some_any none 0 0 none 0 0 false W (by omega) (by omega) (by decide))
  obtain ⟨k, n, t, clock, border, events, told⟩ := s
  simp only at hk
  subst hk
  go_enter Try.func30, Try.ntmps30
  go_wp2_with (first | (go_at_call 28; (with_reducible refine (HSM.out _).mono ?_); rintro e w1 ⟨rfl, hb⟩; have hc0 := pw_cell_below hb (a := ⟨w.heap.size, 0, none⟩) (v := nilV) (by go_simp); have hc1 := pw_cell_below hb (a := ⟨w.heap.size, 1, none⟩) (v := nilV) (by go_simp); have HB := Aside0.mk hb; clear hb))
  go_ret
  have HT := end_at HA.out
  have HK := ((((K3.refl w (fun k => k = g)).setCell (p := ⟨g, 6, none⟩) (.inl rfl) nilV).setCell (p := ⟨g, 7, none⟩) (.inl rfl) nilV).setCell (p := ⟨g, 8, none⟩) (.inl rfl) (.bool false)).alloc (.cells #[nilV, nilV] 31) |>.below HB.out
  have HT1 : At 59 w1 g _ nilV nilV := (blk_alloc HT _).below HB.out
  exact ⟨HT1, HK, rfl⟩
/-- RateSnapshot: all rows, copied, are told. -/
def EndS (w : World) (g : Nat) (s : St) (at_ : Int) (l : List (List S68)) (e : Ending) (w' : World) : Prop :=
  At 59 w' g { s with told := false } nilV nilV ∧ K3 w w' (fun k => k = g) ∧
    (if l = [] then e = .returned nilV else ∃ b v, w.heap.size ≤ b ∧ e = .returned (.slice (some ⟨b, 0, none⟩) 1 1) ∧ w'.heap[b]? = some (.cells #[.int .i64 at_, v, nilV] 43 (0, 0)) ∧ kR.R 61 w' 0 (fun k => w.heap.size ≤ k ∧ k < b) v l)
set_option maxHeartbeats 1000000 in
set_option maxRecDepth 100000 in
theorem end_snap (g : Nat) (s : St) (at_ : Int) (vi vo : Value) (A : Option Addr) (c : Nat) (l : List (List S68)) (w : World) (hk : s.k = 4) (h : At 59 w g s vi vo) (hr : kR.C w A l.length l) (hc : l.length ≤ c) (hs : Sm l) :
    Calls Try.prog 30 #[.pointer (some ⟨g, 0, none⟩), .int .i64 at_, .slice A l.length c] w (EndS w g s at_ l) := by
  have hu31 := Try.underlying31
  have hu43 := Try.underlying43
  have HA := Aside0.mk h
  have hlt := h.lt
  obtain ⟨a0, a1, a2, a3, a4, a5, a6, a7, a8⟩ := h.cells
  clear h
  obtain ⟨b, hb⟩ : ∃ b, decide (0 < l.length + 0) = b := ⟨_, rfl⟩
  have HSM := Aside0.mk (fun A0 c0 W => some_any A0 l.length c0 none 0 0 b W (by have := hs.1; omega) (by omega) hb)
  have HCP := Aside0.mk (fun W (hW : Below w.heap.size w W) => copied_any A c l W (Kd.C_below hr hW) hc hs)
  have HBB := Aside0.mk hb
  clear hb hr hc
  obtain ⟨k, n, t, clock, border, events, told⟩ := s
  simp only at hk
  subst hk
  cases b
  all_goals
    go_enter Try.func30, Try.ntmps30
    go_wp2_with (first | (go_at_call 27; (with_reducible refine (HCP.out _ (below_alloc (Below.refl _ _) _)).mono ?_); rintro e w0 ⟨v0, rfl, hR, hb⟩; obtain ⟨A0, c0, rfl⟩ := Kd.R_slice hR; have HR := Aside0.mk hR; have hblk : w0.heap[w.heap.size]? = some (.cells #[nilV, nilV] 31 (0, 0)) := (hb.block _ (by simp)).trans (by simpa using heap_alloc_new w _); have hc0 : w0.cell? ⟨w.heap.size, 0, none⟩ = some nilV := (blk_cell hblk 0).trans rfl; have hc1 : w0.cell? ⟨w.heap.size, 1, none⟩ = some nilV := (blk_cell hblk 1).trans rfl; have hf0 := blk_frozen hblk 0; have hf1 := blk_frozen hblk 1; have hg := hb.block g (by simp; omega); have HA0 : At 59 w0 g _ vi vo := hg.trans (blk_alloc HA.out _); obtain ⟨b0, b1, b2, b3, b4, b5, b6, b7, b8⟩ := HA0.cells; have f6 := HA0.frozen 6; have f7 := HA0.frozen 7; have f8 := HA0.frozen 8; have HA1 := Aside0.mk HA0; have hb0 := Aside0.mk hb; have hblk' := Aside0.mk hblk; clear hR hb hblk hg HA0) | (go_at_call 28; (with_reducible refine (HSM.out _ _ _).mono ?_); rintro e w1 ⟨rfl, hb⟩; have hd0 := pw_cell_below hb (a := ⟨w.heap.size, 0, none⟩) (v := .slice A0 l.length c0) (by go_simp); have hd1 := pw_cell_below hb (a := ⟨w.heap.size, 1, none⟩) (v := nilV) (by go_simp); have HB := Aside0.mk hb; clear hb))
    go_ret
    have hgne : g ≠ w.heap.size := Nat.ne_of_lt hlt
    have HF : At 59 (w0.setCell ⟨w.heap.size, 0, none⟩ (.slice A0 l.length c0)) g _ vi vo := blk_far HA1.out hgne _
    have HT := end_at HF
    have HT1 : At 59 w1 g _ nilV nilV := HT.below HB.out
    have HK := ((((((K3.refl w (fun k => k = g)).alloc (.cells #[nilV, nilV] 31)).below hb0.out).setCell (p := ⟨w.heap.size, 0, none⟩) (.inr (Nat.le_refl _)) (.slice A0 l.length c0)).setCell (p := ⟨g, 6, none⟩) (.inl rfl) nilV).setCell (p := ⟨g, 7, none⟩) (.inl rfl) nilV).setCell (p := ⟨g, 8, none⟩) (.inl rfl) (.bool false) |>.below HB.out
    have hsz : (w.alloc (.cells #[nilV, nilV] 31)).heap.size = w.heap.size + 1 := by simp
    have ne1 : ∀ k, (w.alloc (.cells #[nilV, nilV] 31)).heap.size ≤ k → k ≠ w.heap.size := fun k hk => by omega
    have ne2 : ∀ k, (w.alloc (.cells #[nilV, nilV] 31)).heap.size ≤ k → k ≠ g := fun k hk => by omega
    have HR1 := Kd.R_bound (Kd.R_below (Kd.R_far (Kd.R_far (Kd.R_far (Kd.R_far HR.out (p := ⟨w.heap.size, 0, none⟩) ne1 (.slice A0 l.length c0)) (p := ⟨g, 6, none⟩) ne2 nilV) (p := ⟨g, 7, none⟩) ne2 nilV) (p := ⟨g, 8, none⟩) ne2 (.bool false)) HB.out)
    have hl := HBB.out
    first
    | exact ⟨HT1, HK, by rw [if_pos (by have := of_decide_eq_false hl; exact List.eq_nil_of_length_eq_zero (by omega))]; rfl⟩
    | exact ⟨blk_alloc HT1 _, HK.alloc _, by
        rw [if_neg (by rintro rfl; exact absurd hl (by decide))]
        exact ⟨w1.heap.size, _, HK.1, rfl, by simpa using heap_alloc_new w1 _, Kd.R_mono (Kd.R_lower (Kd.R_below HR1 (below_alloc (Below.refl _ _) _)) (Nat.zero_le _)) (fun k hk => ⟨by have h9 : (w.alloc (.cells #[nilV, nilV] 31)).heap.size ≤ k := hk.1; omega, hk.2.2.1⟩)⟩⟩
end Go.Proofs.Yteklabhmmfklbaa
namespace Go.Proofs.Yteklabhmmfklbaa
open Go.RowKit Print Go.Proofs.YteklabhmmfklbaaW.PrintWords Go.Proofs.YteklabhmmfklbaaW.PrintLast Go.Proofs.YteklabhmmfklbaaW.PrintMore
set_option linter.unusedVariables false
theorem one_row {w : World} {ok : Nat → Prop} {b : Nat} {t : Int} {v1 v2 : Value} {xs ys : List (List S68)} (hb : w.heap[b]? = some (.cells #[.int .i64 t, v1, v2] 43 (0, 0))) (h1 : kR.R 61 w 0 ok v1 xs) (h2 : kR.R 61 w 0 ok v2 ys) :
    ReadsRow (k43.M w 0 ok) 3 w (some ⟨b, 0, none⟩) 1 [(⟨t, ⟨xs, ys⟩⟩ : S43)] := by
  refine ⟨rfl, by omega, fun _ => ⟨_, rfl, fun j p hj => ?_⟩⟩
  rcases j with _ | j
  · simp only [List.getElem?_cons_zero, Option.some.injEq] at hj
    subst hj
    refine ⟨[.int .i64 t, v1, v2], rfl, k43_mkM w 0 ok ⟨t, ⟨xs, ys⟩⟩ h1 h2, fun i u hu => ?_⟩
    rw [add_plain, Nat.zero_mul, Nat.zero_add]
    refine (blk_cell hb i).trans ?_
    rcases i with _ | _ | _ | i
    · exact hu
    · exact hu
    · exact hu
    · simp at hu
  · simp at hj
theorem no_rows (w : World) (ok : Nat → Prop) : ReadsRow (k43.M w 0 ok) 3 w none 0 ([] : List S43) := ⟨rfl, by omega, fun h => by omega⟩
/-- What is told at an interval's end. -/
def endD (k at_ : Int) (rin rout all : List (List S68)) : List S43 :=
  if k = 1 ∨ k = 3 then (if rin.length + rout.length = 0 then [] else [⟨at_, ⟨rin, rout⟩⟩])
  else if k = 4 then (if all = [] then [] else [⟨at_, ⟨all, []⟩⟩]) else []
/-- Deliveries that are read; what they lead to is ok's. -/
def Tells (w : World) (ok : Nat → Prop) (v : Value) (l : List S43) : Prop := ∃ A c, v = .slice A l.length c ∧ l.length ≤ c ∧ ReadsRow (k43.M w 0 ok) 3 w A l.length l
def EndA (w : World) (g : Nat) (s : St) (l : List S43) (okS : Nat → Prop) (e : Ending) (w' : World) : Prop :=
  ∃ v, e = .returned v ∧ Tells w' (fun k => okS k ∨ w.heap.size ≤ k) v l ∧ At 59 w' g { s with told := false } nilV nilV ∧ K3 w w' (fun k => k = g)
theorem end_any (g : Nat) (s : St) (at_ : Int) (vi vo : Value) (rin rout : List (List S68)) (okS : Nat → Prop) (A : Option Addr) (c : Nat) (all : List (List S68)) (w : World) (hk : s.k = 1 ∨ s.k = 2 ∨ s.k = 3 ∨ s.k = 4)
    (h : At 59 w g s vi vo) (hi : kR.R 61 w 0 okS vi rin) (ho : kR.R 61 w 0 okS vo rout) (hg : ¬ okS g) (hsi : Sm rin) (hso : Sm rout) (ha : kR.C w A all.length all) (hc : all.length ≤ c) (hs : Sm all) :
    Calls Try.prog 30 #[.pointer (some ⟨g, 0, none⟩), .int .i64 at_, .slice A all.length c] w (EndA w g s (endD s.k at_ rin rout all) okS) := by
  have hgg : ∀ k, okS k → ¬ k = g := fun k hk e => hg (e ▸ hk)
  by_cases k13 : s.k = 1 ∨ s.k = 3
  · obtain ⟨A0, c0, rfl⟩ := Kd.R_slice hi
    obtain ⟨A1, c1, rfl⟩ := Kd.R_slice ho
    refine (end_tell g s at_ A0 rin.length c0 A1 rout.length c1 A all.length c w k13 h (by have := hsi.1; omega) (by have := hso.1; omega)).mono fun e w' ⟨hT, hK, hE⟩ => ?_
    have hi' := K3.R hi hK hgg
    have ho' := K3.R ho hK hgg
    unfold endD
    rw [if_pos k13]
    by_cases z : rin.length + rout.length = 0
    · rw [if_pos z]
      rw [if_neg (by rw [decide_eq_true_iff]; omega)] at hE
      exact ⟨_, hE, ⟨none, 0, rfl, Nat.le_refl _, no_rows _ _⟩, hT, hK⟩
    · rw [if_neg z]
      rw [if_pos (decide_eq_true (by omega))] at hE
      obtain ⟨b, hb, he, hbb⟩ := hE
      exact ⟨_, he, ⟨_, 1, rfl, Nat.le_refl _, one_row hbb (Kd.R_mono hi' (fun _ hk => .inl hk)) (Kd.R_mono ho' (fun _ hk => .inl hk))⟩, hT, hK⟩
  · by_cases k4 : s.k = 4
    · refine (end_snap g s at_ vi vo A c all w k4 h ha hc hs).mono fun e w' ⟨hT, hK, hE⟩ => ?_
      unfold endD
      rw [if_neg k13, if_pos k4]
      by_cases z : all = []
      · rw [if_pos z]
        rw [if_pos z] at hE
        exact ⟨_, hE, ⟨none, 0, rfl, Nat.le_refl _, no_rows _ _⟩, hT, hK⟩
      · rw [if_neg z]
        rw [if_neg z] at hE
        obtain ⟨b, v, hb, he, hbb, hR⟩ := hE
        exact ⟨_, he, ⟨_, 1, rfl, Nat.le_refl _, one_row hbb (Kd.R_mono hR (fun _ hk => .inr hk.1)) (Kd.R_nil _ _ _ _ _)⟩, hT, hK⟩
    · have k2 : s.k = 2 := by omega
      refine (end_none g s at_ vi vo A all.length c w k2 h).mono fun e w' ⟨hT, hK, hE⟩ => ?_
      unfold endD
      rw [if_neg k13, if_neg k4]
      rw [if_neg (by decide)] at hE
      exact ⟨_, hE, ⟨none, 0, rfl, Nat.le_refl _, no_rows _ _⟩, hT, hK⟩
end Go.Proofs.Yteklabhmmfklbaa
