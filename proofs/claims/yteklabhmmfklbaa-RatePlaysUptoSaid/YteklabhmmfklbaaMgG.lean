import Derived.Test.YteklabhmmfklbaaMgE
import Derived.StillTailTactics
import Derived.Deep.RegionHeld3
import Derived.Deep.RegionLaw
import Derived.Deep.DeepCutAuto
import Derived.Deep.CutBlock
namespace Go.Proofs.Yteklabhmmfklbaa
open Go.RowKit Print Go.Proofs.YteklabhmmfklbaaW.PrintWords Go.Proofs.YteklabhmmfklbaaW.PrintLast Go.Proofs.YteklabhmmfklbaaW.PrintMore
set_option linter.unusedVariables false
theorem heap_kR : Kd.Heap kR := Kd.heap_slice 68 (Kd.heap_iso _ (Kd.heap_pair (Kd.heap_int _) (Kd.heap_pair (Kd.heap_int _) Kd.heap_string)))
/-- Both rows of a rate, each in blocks of its own. -/
structure Both (w : World) (g : Nat) (s : St) (okI okO : Nat → Prop) (vi vo : Value) (ri ro : List (List S68)) : Prop where
  at_ : At 59 w g s vi vo
  hi : kR.R 61 w 0 okI vi ri
  ho : kR.R 61 w 0 okO vo ro
  gI : ¬ okI g
  gO : ¬ okO g
  bI : ∀ k, okI k → k < w.heap.size
  bO : ∀ k, okO k → k < w.heap.size
  dis : ∀ k, okI k → ¬ okO k
/-- What gather leaves. -/
def GatP (w : World) (g : Nat) (s : St) (okI okO : Nat → Prop) (ri ro : List (List S68)) (w' : World) : Prop :=
  ∃ vi vo, ∃ okI' okO' : Nat → Prop, Both w' g s okI' okO' vi vo ri ro ∧ K3 w w' (fun k => k = g ∨ okI k ∨ okO k) ∧ (∀ k, okI' k → okI k ∨ w.heap.size ≤ k) ∧ (∀ k, okO' k → okO k ∨ w.heap.size ≤ k)
theorem At.set_in {ty : Nat} {w : World} {g : Nat} {s : St} {vi vo : Value} (h : At ty w g s vi vo) (x : Value) : At ty (w.setCell ⟨g, 6, none⟩ x) g s x vo := by
  simpa [At, cellsP] using blk_set h 6 x
theorem At.set_out {ty : Nat} {w : World} {g : Nat} {s : St} {vi vo : Value} (h : At ty w g s vi vo) (x : Value) : At ty (w.setCell ⟨g, 7, none⟩ x) g s vi x := by
  simpa [At, cellsP] using blk_set h 7 x
theorem Both.below {w w1 : World} {g : Nat} {s : St} {okI okO : Nat → Prop} {vi vo : Value} {ri ro : List (List S68)} (h : Both w g s okI okO vi vo ri ro) (hb : Below w.heap.size w w1) : Both w1 g s okI okO vi vo ri ro :=
  ⟨h.at_.below hb, Kd.R_below h.hi hb, Kd.R_below h.ho hb, h.gI, h.gO, fun k hk => Nat.lt_of_lt_of_le (h.bI k hk) hb.size, fun k hk => Nat.lt_of_lt_of_le (h.bO k hk) hb.size, h.dis⟩
theorem gat_ok {w W0 : World} {okI : Nat → Prop} {v A1 : Value} {xs : List (List S68)} (h : kR.R 61 w 0 okI v xs) (hb : ∀ k, okI k → k < w.heap.size) (hs : w.heap.size ≤ W0.heap.size) :
    ∀ k, (W0.heap.size ≤ k ∧ some k ≠ A1.ownBlock) → (okI k ∨ w.heap.size ≤ k) ∧ some k ≠ v.ownBlock := fun k hk =>
  ⟨.inr (Nat.le_trans hs hk.1), fun e => by have := hb k (h.1 k e.symm); have := hk.1; omega⟩
/-- The rows that came in, appended. -/
theorem gat_in {w w1 w2 : World} {g : Nat} {s : St} {okI okO : Nat → Prop} {vi vo v2 : Value} {ri ro l : List (List S68)} (h : Both w g s okI okO vi vo ri ro) (h1 : Below w.heap.size w w1) (hR : kR.R 61 w2 0 (fun k => okI k ∨ w.heap.size ≤ k) v2 l) (hg : w1.grownBy w2 vi.ownBlock) :
    Both (w2.setCell ⟨g, 6, none⟩ v2) g s (fun k => (okI k ∨ w.heap.size ≤ k) ∧ k < w2.heap.size) okO v2 vo l ro ∧ K3 w (w2.setCell ⟨g, 6, none⟩ v2) (fun k => k = g ∨ okI k) := by
  have b := h.below h1
  have hlt := h.at_.lt
  have hne : some g ≠ vi.ownBlock := fun e => h.gI (h.hi.1 g e.symm)
  have hA2 : At 59 w2 g s vi vo := (hg.block g b.at_.lt hne).trans b.at_
  have hK2 : K3 w w2 (fun k => k = g ∨ okI k) := K3.of_grown hg (K3.of_below h1 _) (fun k hk => .inl (.inr (h.hi.1 k hk)))
  have ng : ∀ k, (okI k ∨ w.heap.size ≤ k) → k ≠ g := fun k hk => hk.elim (fun h' e => h.gI (e ▸ h')) (fun h' e => by omega)
  have ngO : ∀ k, okO k → k ≠ g := fun k hk e => h.gO (e ▸ hk)
  have hsz : (w2.setCell ⟨g, 6, none⟩ v2).heap.size = w2.heap.size := by simp [World.setCell]
  refine ⟨⟨hA2.set_in v2, Kd.R_far (Kd.R_mono (Kd.R_bound hR) (fun k hk => ⟨hk.1, hk.2.2.1⟩)) (p := ⟨g, 6, none⟩) (fun k hk => ng k hk.1) _, Kd.R_far (K3.R h.ho hK2 (fun k hk => fun h' => h'.elim (ngO k hk) (fun h'' => h.dis k h'' hk))) (p := ⟨g, 6, none⟩) ngO _, fun h' => ng g h'.1 rfl, h.gO, fun k hk => by rw [hsz]; exact hk.2, fun k hk => by rw [hsz]; exact Nat.lt_of_lt_of_le (h.bO k hk) hK2.1, fun k hk hO => ?_⟩, hK2.setCell (p := ⟨g, 6, none⟩) (.inl (.inl rfl)) _⟩
  rcases hk.1 with h' | h'
  · exact h.dis k h' hO
  · have := h.bO k hO; omega
theorem gat_out {w w1 w2 : World} {g : Nat} {s : St} {okI okO : Nat → Prop} {vi vo v2 : Value} {ri ro l : List (List S68)} (h : Both w g s okI okO vi vo ri ro) (h1 : Below w.heap.size w w1) (hR : kR.R 61 w2 0 (fun k => okO k ∨ w.heap.size ≤ k) v2 l) (hg : w1.grownBy w2 vo.ownBlock) :
    Both (w2.setCell ⟨g, 7, none⟩ v2) g s okI (fun k => (okO k ∨ w.heap.size ≤ k) ∧ k < w2.heap.size) vi v2 ri l ∧ K3 w (w2.setCell ⟨g, 7, none⟩ v2) (fun k => k = g ∨ okO k) := by
  have b := h.below h1
  have hlt := h.at_.lt
  have hne : some g ≠ vo.ownBlock := fun e => h.gO (h.ho.1 g e.symm)
  have hA2 : At 59 w2 g s vi vo := (hg.block g b.at_.lt hne).trans b.at_
  have hK2 : K3 w w2 (fun k => k = g ∨ okO k) := K3.of_grown hg (K3.of_below h1 _) (fun k hk => .inl (.inr (h.ho.1 k hk)))
  have ng : ∀ k, (okO k ∨ w.heap.size ≤ k) → k ≠ g := fun k hk => hk.elim (fun h' e => h.gO (e ▸ h')) (fun h' e => by omega)
  have ngI : ∀ k, okI k → k ≠ g := fun k hk e => h.gI (e ▸ hk)
  have hsz : (w2.setCell ⟨g, 7, none⟩ v2).heap.size = w2.heap.size := by simp [World.setCell]
  refine ⟨⟨hA2.set_out v2, Kd.R_far (K3.R h.hi hK2 (fun k hk => fun h' => h'.elim (ngI k hk) (fun h'' => h.dis k hk h''))) (p := ⟨g, 7, none⟩) ngI _, Kd.R_far (Kd.R_mono (Kd.R_bound hR) (fun k hk => ⟨hk.1, hk.2.2.1⟩)) (p := ⟨g, 7, none⟩) (fun k hk => ng k hk.1) _, h.gI, fun h' => ng g h'.1 rfl, fun k hk => by rw [hsz]; exact Nat.lt_of_lt_of_le (h.bI k hk) hK2.1, fun k hk => by rw [hsz]; exact hk.2, fun k hI hk => ?_⟩, hK2.setCell (p := ⟨g, 7, none⟩) (.inl (.inl rfl)) _⟩
  rcases hk.1 with h' | h'
  · exact h.dis k hI h'
  · have := h.bI k hI; omega
theorem loop_at2 {ty : Nat} {w w1 w2 : World} {g : Nat} {s : St} {vi vo v : Value} (h : At ty w g s vi vo) (hb : Below w.heap.size w w1) (hg : w1.grownBy w2 v.ownBlock) (hne : some g ≠ v.ownBlock) : At ty w2 g s vi vo :=
  (hg.block g (Nat.lt_of_lt_of_le h.lt hb.size) hne).trans ((hb.block g h.lt).trans h)
/-- What stands between the two appends. -/
def Mid (w : World) (g b3 : Nat) (s : St) (okI okO : Nat → Prop) (ri ro : List (List S68)) (x y : Value) (wx : World) : Prop :=
  ∃ vi vo, ∃ okI' okO' : Nat → Prop, Both wx g s okI' okO' vi vo ri ro ∧ K3 w wx (fun k => k = g ∨ okI k ∨ okO k) ∧ (∀ k, okI' k → okI k ∨ w.heap.size ≤ k) ∧ (∀ k, okO' k → okO k ∨ w.heap.size ≤ k) ∧ wx.heap[b3]? = some (.cells #[x, y] 31 (0, 0)) ∧ ¬ okI' b3 ∧ ¬ okO' b3
theorem mid_in {w wx w1 w2 : World} {g b3 : Nat} {s : St} {okI okO okI1 okO1 : Nat → Prop} {vi vo v2 x y : Value} {ri ro l : List (List S68)} (hB : Both wx g s okI1 okO1 vi vo ri ro) (hK : K3 w wx (fun k => k = g ∨ okI k ∨ okO k)) (hI : ∀ k, okI1 k → okI k ∨ w.heap.size ≤ k) (hO : ∀ k, okO1 k → okO k ∨ w.heap.size ≤ k)
    (hb : wx.heap[b3]? = some (.cells #[x, y] 31 (0, 0))) (hnI : ¬ okI1 b3) (hnO : ¬ okO1 b3) (hgb : b3 ≠ g) (h1 : Below wx.heap.size wx w1) (hR : kR.R 61 w2 0 (fun k => okI1 k ∨ wx.heap.size ≤ k) v2 l) (hg : w1.grownBy w2 vi.ownBlock) :
    Mid w g b3 s okI okO l ro x y (w2.setCell ⟨g, 6, none⟩ v2) := by
  obtain ⟨b, hk⟩ := gat_in hB h1 hR hg
  refine ⟨v2, vo, _, okO1, b, hK.then_ hk (fun k h => h.elim (fun e => .inl (.inl e)) (fun h' => (hI k h').elim (fun h'' => .inl (.inr (.inl h''))) .inr)), fun k h => h.1.elim (hI k) (fun h' => .inr (Nat.le_trans hK.1 h')), hO, K3.blk hb hk (fun h => h.elim hgb hnI), fun h => h.1.elim hnI (fun h' => by have := blk_lt hb; omega), hnO⟩
theorem mid_out {w wx w1 w2 : World} {g b3 : Nat} {s : St} {okI okO okI1 okO1 : Nat → Prop} {vi vo v2 x y : Value} {ri ro l : List (List S68)} (hB : Both wx g s okI1 okO1 vi vo ri ro) (hK : K3 w wx (fun k => k = g ∨ okI k ∨ okO k)) (hI : ∀ k, okI1 k → okI k ∨ w.heap.size ≤ k) (hO : ∀ k, okO1 k → okO k ∨ w.heap.size ≤ k)
    (hb : wx.heap[b3]? = some (.cells #[x, y] 31 (0, 0))) (hnI : ¬ okI1 b3) (hnO : ¬ okO1 b3) (hgb : b3 ≠ g) (h1 : Below wx.heap.size wx w1) (hR : kR.R 61 w2 0 (fun k => okO1 k ∨ wx.heap.size ≤ k) v2 l) (hg : w1.grownBy w2 vo.ownBlock) :
    Mid w g b3 s okI okO ri l x y (w2.setCell ⟨g, 7, none⟩ v2) := by
  obtain ⟨b, hk⟩ := gat_out hB h1 hR hg
  refine ⟨vi, v2, okI1, _, b, hK.then_ hk (fun k h => h.elim (fun e => .inl (.inl e)) (fun h' => (hO k h').elim (fun h'' => .inl (.inr (.inr h''))) .inr)), hI, fun k h => h.1.elim (hO k) (fun h' => .inr (Nat.le_trans hK.1 h')), K3.blk hb hk (fun h => h.elim hgb hnO), hnI, fun h => h.1.elim hnO (fun h' => by have := blk_lt hb; omega)⟩
theorem mid_gat {w wx : World} {g b3 : Nat} {s : St} {okI okO : Nat → Prop} {ri ro : List (List S68)} {x y : Value} (h : Mid w g b3 s okI okO ri ro x y wx) : GatP w g s okI okO ri ro wx := by
  obtain ⟨vi, vo, okI', okO', hB, hK, hI, hO, _⟩ := h
  exact ⟨vi, vo, okI', okO', hB, hK, hI, hO⟩
set_option maxHeartbeats 2000000 in
set_option maxRecDepth 100000 in
theorem gather_all (g : Nat) (s : St) (vi vo : Value) (rin rout : List (List S68)) (okI okO : Nat → Prop) (A : Option Addr) (c : Nat) (xs : List (List S68)) (A' : Option Addr) (c' : Nat) (ys : List (List S68)) (okX : Nat → Prop) (w : World) (hk : s.k = 1)
    (h : Both w g s okI okO vi vo rin rout) (hx : Kd.F kR w okX A xs.length xs) (hxc : xs.length ≤ c) (hxs : Sm xs) (hy : Kd.F kR w okX A' ys.length ys) (hyc : ys.length ≤ c') (hys : Sm ys)
    (hX : ∀ k, okX k → k ≠ g ∧ ¬ okI k ∧ ¬ okO k) (hri : rin.length ≤ 2097152) (hro : rout.length ≤ 2097152) :
    Calls Try.prog 29 #[.pointer (some ⟨g, 0, none⟩), .agg #[.slice A xs.length c, .slice A' ys.length c']] w (fun e w' => e = .returned (.tuple #[]) ∧ GatP w g s okI okO (rin ++ xs) (rout ++ ys) w') := by
  have hu31 := Try.underlying31
  have HB0 := Aside0.mk (h.below (below_alloc (Below.refl w.heap.size w) (.cells #[.slice A xs.length c, .slice A' ys.length c'] 31)))
  have HX0 := Aside0.mk hX
  have HFX := Aside0.mk hx
  have HFY := Aside0.mk hy
  have HXS := Aside0.mk (And.intro hxc hxs)
  have HYS := Aside0.mk (And.intro hyc hys)
  have HLX := Aside0.mk hxs.1
  have HLY := Aside0.mk hys.1
  have hM0 : Mid w g w.heap.size s okI okO rin rout (.slice A xs.length c) (.slice A' ys.length c') (w.alloc (.cells #[.slice A xs.length c, .slice A' ys.length c'] 31)) :=
    ⟨vi, vo, okI, okO, HB0.out, (K3.refl w _).alloc _, fun k hk => .inl hk, fun k hk => .inl hk, by simpa using heap_alloc_new w _, fun hk => Nat.lt_irrefl _ (h.bI _ hk), fun hk => Nat.lt_irrefl _ (h.bO _ hk)⟩
  have HM0 := Aside0.mk hM0
  obtain ⟨a0, a1, a2, a3, a4, a5, a6, a7, a8⟩ := h.at_.cells
  have hlt := h.at_.lt
  clear h hx hy hxc hxs hyc hys hX hM0 HB0
  obtain ⟨k, n, t, clock, border, events, told⟩ := s
  simp only at hk
  subst hk
  go_enter Try.func29, Try.ntmps29
  go_upto_region 3 with (fail)
  go_cut [] (fun wx => Aside0 (Mid w g w.heap.size ⟨1, n, t, clock, border, events, told⟩ okI okO (rin ++ xs) rout (.slice A xs.length c) (.slice A' ys.length c') wx))
  case first =>
    obtain ⟨vi1, vo1, okI1, okO1, hB, hK, hI1, hO1, hb3, hnI, hnO⟩ := HM0.out
    clear HM0 a0 a1 a2 a3 a4 a5 a6 a7 a8
    generalize w.alloc (.cells #[.slice A xs.length c, .slice A' ys.length c'] 31) = wx at *
    obtain ⟨a0, a1, a2, a3, a4, a5, a6, a7, a8⟩ := hB.at_.cells
    have f6 := hB.at_.frozen 6
    have z0 : wx.cell? ⟨w.heap.size, 0, none⟩ = some (.slice A xs.length c) := (blk_cell hb3 0).trans rfl
    have hFW := K3.F HFX.out hK (fun k hk h' => h'.elim (HX0.out k hk).1 (fun h'' => h''.elim (HX0.out k hk).2.1 (HX0.out k hk).2.2))
    have HCP := Aside0.mk (fun W (hW : Below wx.heap.size wx W) => copied_any A c xs W (Kd.F_now (Kd.F_below hFW hW)) HXS.out.1 HXS.out.2)
    have n1 : some g ≠ vi1.ownBlock := fun e => hB.gI (hB.hi.1 g e.symm)
    have n2 : some w.heap.size ≠ vi1.ownBlock := fun e => hnI (hB.hi.1 _ e.symm)
    have N12 := Aside0.mk (And.intro n1 n2)
    have HBB := Aside0.mk hB
    have HREST := Aside0.mk (And.intro hK (And.intro hI1 (And.intro hO1 (And.intro hb3 (And.intro hnI hnO)))))
    clear n1 n2 hB hK hI1 hO1 hb3 hnI hnO hFW
    go_region_law (first | (refine Kd.R_append_rows_step kR (w0 := w1) 0 rfl (.tmp 18) (.tmp 21) 29 61 (.slice none 0 0) 24 rfl Try.underlying29 info61 rfl (by decide) (by omega) vi1 rin xs A1 xs.length c1 (fun k => okI1 k ∨ wx.heap.size ≤ k) _ rfl rfl ?aO HR1.out (fun _ _ h => h) ?aK ?aF ?aB ?aS ?aL ?_; (case aO => exact Kd.R_mono (Kd.R_below HBB.out.hi HW1.out) (fun _ h => .inl h)); (case aK => exact gat_ok HBB.out.hi HBB.out.bI (by simp)); (case aF => exact fun k hk => .inr (Nat.le_trans HW1.out.size hk)); (case aB => exact Below.refl _ _); (case aS => exact Nat.zero_le _); (case aL => have := HLX.out; omega); intro v2 w2 ho2 hb2 hg2 hat2; obtain ⟨A2, c2, rfl⟩ := Kd.R_slice ho2; have y6 := cell_grown hg2 z6 N12.out.1; have y0 := cell_grown hg2 z0' N12.out.2; have q6 := (loop_at2 HBB.out.at_ HW1.out hg2 N12.out.1).frozen 6; have HO2 := Aside0.mk ho2; have HG2 := Aside0.mk hg2; clear ho2 hb2 hg2 hat2) | (go_simp; go_at_call 27; refine (HCP.out _ (by repeat (first | exact Below.refl _ _ | apply below_alloc | apply pw_below_drewN | apply below_drew1))).mono ?_; rintro e w1 ⟨v1, rfl, hR1, hb1⟩; have z6 := pw_cell_below hb1 (a := ⟨g, 6, none⟩) (v := vi1) (by go_simp); have z0' := pw_cell_below hb1 (a := ⟨w.heap.size, 0, none⟩) (v := .slice A xs.length c) (by go_simp); have HW1 := Aside0.mk (below_then (w := wx) (B := wx.heap.size) (by repeat (first | exact Below.refl _ _ | apply below_alloc | apply pw_below_drewN | apply below_drew1)) (by simp) hb1); obtain ⟨A1, c1, rfl, hl1, hr1⟩ := OwnRow.reads (Kd.R_lower hR1 (Nat.zero_le _)).2; have HR1 := Aside0.mk hr1; clear hb1 hR1 hr1 hl1))
    all_goals
      go_wp2_with fail
      go_meet
      case rel => exact ⟨mid_in HBB.out HREST.out.1 HREST.out.2.1 HREST.out.2.2.1 HREST.out.2.2.2.1 HREST.out.2.2.2.2.1 HREST.out.2.2.2.2.2 (by omega) HW1.out (by have h9 := HO2.out; rwa [List.length_append] at h9) HG2.out⟩
  case rest =>
    clear HM0 a0 a1 a2 a3 a4 a5 a6 a7 a8
    have HM1 := hcut
    clear hcut
    obtain ⟨vi0, vo0, okI0, okO0, hB0, _⟩ := HM1.out
    obtain ⟨a0, a1, a2, a3, a4, a5, a6, a7, a8⟩ := hB0.at_.cells
    clear hB0
    go_upto_region 4 with (fail)
    obtain ⟨vi1, vo1, okI1, okO1, hB, hK, hI1, hO1, hb3, hnI, hnO⟩ := HM1.out
    clear HM1 a0 a1 a2 a3 a4 a5 a6 a7 a8
    obtain ⟨a0, a1, a2, a3, a4, a5, a6, a7, a8⟩ := hB.at_.cells
    have f6 := hB.at_.frozen 7
    have z0 : wc.cell? ⟨w.heap.size, 1, none⟩ = some (.slice A' ys.length c') := (blk_cell hb3 1).trans rfl
    have hFW := K3.F HFY.out hK (fun k hk h' => h'.elim (HX0.out k hk).1 (fun h'' => h''.elim (HX0.out k hk).2.1 (HX0.out k hk).2.2))
    have HCP := Aside0.mk (fun W (hW : Below wc.heap.size wc W) => copied_any A' c' ys W (Kd.F_now (Kd.F_below hFW hW)) HYS.out.1 HYS.out.2)
    have n1 : some g ≠ vo1.ownBlock := fun e => hB.gO (hB.ho.1 g e.symm)
    have n2 : some w.heap.size ≠ vo1.ownBlock := fun e => hnO (hB.ho.1 _ e.symm)
    have N12 := Aside0.mk (And.intro n1 n2)
    have HBB := Aside0.mk hB
    have HREST := Aside0.mk (And.intro hK (And.intro hI1 (And.intro hO1 (And.intro hb3 (And.intro hnI hnO)))))
    clear n1 n2 hB hK hI1 hO1 hb3 hnI hnO hFW
    go_region_law (first | (refine Kd.R_append_rows_step kR (w0 := w1) 0 rfl (.tmp 31) (.tmp 34) 29 61 (.slice none 0 0) 24 rfl Try.underlying29 info61 rfl (by decide) (by omega) vo1 rout ys A1 ys.length c1 (fun k => okO1 k ∨ wc.heap.size ≤ k) _ rfl rfl ?aO HR1.out (fun _ _ h => h) ?aK ?aF ?aB ?aS ?aL ?_; (case aO => exact Kd.R_mono (Kd.R_below HBB.out.ho HW1.out) (fun _ h => .inl h)); (case aK => exact gat_ok HBB.out.ho HBB.out.bO (by simp)); (case aF => exact fun k hk => .inr (Nat.le_trans HW1.out.size hk)); (case aB => exact Below.refl _ _); (case aS => exact Nat.zero_le _); (case aL => have := HLY.out; omega); intro v2 w2 ho2 hb2 hg2 hat2; obtain ⟨A2, c2, rfl⟩ := Kd.R_slice ho2; have y6 := cell_grown hg2 z6 N12.out.1; have y0 := cell_grown hg2 z0' N12.out.2; have q6 := (loop_at2 HBB.out.at_ HW1.out hg2 N12.out.1).frozen 7; have HO2 := Aside0.mk ho2; have HG2 := Aside0.mk hg2; clear ho2 hb2 hg2 hat2) | (go_simp; go_at_call 27; refine (HCP.out _ (by repeat (first | exact Below.refl _ _ | apply below_alloc | apply pw_below_drewN | apply below_drew1))).mono ?_; rintro e w1 ⟨v1, rfl, hR1, hb1⟩; have z6 := pw_cell_below hb1 (a := ⟨g, 7, none⟩) (v := vo1) (by go_simp); have z0' := pw_cell_below hb1 (a := ⟨w.heap.size, 1, none⟩) (v := .slice A' ys.length c') (by go_simp); have HW1 := Aside0.mk (below_then (w := wc) (B := wc.heap.size) (by repeat (first | exact Below.refl _ _ | apply below_alloc | apply pw_below_drewN | apply below_drew1)) (by simp) hb1); obtain ⟨A1, c1, rfl, hl1, hr1⟩ := OwnRow.reads (Kd.R_lower hR1 (Nat.zero_le _)).2; have HR1 := Aside0.mk hr1; clear hb1 hR1 hr1 hl1))
    all_goals
      go_wp2
      go_end0
      exact ⟨rfl, mid_gat (mid_out HBB.out HREST.out.1 HREST.out.2.1 HREST.out.2.2.1 HREST.out.2.2.2.1 HREST.out.2.2.2.2.1 HREST.out.2.2.2.2.2 (by omega) HW1.out (by have h9 := HO2.out; rwa [List.length_append] at h9) HG2.out)⟩
end Go.Proofs.Yteklabhmmfklbaa
namespace Go.Proofs.Yteklabhmmfklbaa
open Go.RowKit Print Go.Proofs.YteklabhmmfklbaaW.PrintWords Go.Proofs.YteklabhmmfklbaaW.PrintLast Go.Proofs.YteklabhmmfklbaaW.PrintMore
set_option linter.unusedVariables false
/-- The last row, if there is one. -/
def lastOf (l : List (List S68)) : List (List S68) := l.drop (l.length - 1)
theorem last_length (l : List (List S68)) : l.length - (l.length - 1) = (lastOf l).length := by unfold lastOf; rw [List.length_drop]
theorem cut_last {A : Option Addr} {c : Nat} {l : List (List S68)} (hl : 0 < l.length) (hc : l.length ≤ c) {w : World} {ok : Nat → Prop} (h : Kd.F kR w ok A l.length l) : Kd.F kR w ok (Option.map (fun x => x.add (l.length - 1)) A) (lastOf l).length (lastOf l) := by
  have h2 := Kd.F_cut h (Nat.sub_le l.length 1) hc
  rw [if_neg (by omega)] at h2
  have h1 : kR.sz = 1 := rfl
  simpa [h1, lastOf] using h2
theorem Sm_last {l : List (List S68)} (h : Sm l) : Sm (lastOf l) := ⟨by unfold lastOf; rw [List.length_drop]; have := h.1; omega, fun x hx => h.2 x (List.mem_of_mem_drop hx)⟩
theorem copied_last (A : Option Addr) (c : Nat) (l : List (List S68)) (w : World) (ok : Nat → Prop) (hl : 0 < l.length) (hc : l.length ≤ c) (hs : Sm l) (h : Kd.F kR w ok A l.length l) :
    Calls Try.prog 27 #[.slice (Option.map (fun (x : Addr) => x.add (l.length - 1)) A) (l.length - (l.length - 1)) (c - (l.length - 1))] w fun e w' => ∃ v : Value, e = .returned v ∧ kR.R 61 w' w.heap.size (fun k => w.heap.size ≤ k) v (lastOf l) ∧ Below w.heap.size w w' := by
  rw [last_length]
  exact copied_any _ _ (lastOf l) w (Kd.F_now (cut_last hl hc h)) (by rw [← last_length]; omega) (Sm_last hs)
theorem put_in {w w1 : World} {g : Nat} {s : St} {okI okO : Nat → Prop} {vi vo v1 : Value} {ri ro l : List (List S68)} (h : Both w g s okI okO vi vo ri ro) (h1 : Below w.heap.size w w1) (hR0 : kR.R 61 w1 w.heap.size (fun k => w.heap.size ≤ k) v1 l) :
    Both (w1.setCell ⟨g, 6, none⟩ v1) g s (fun k => w.heap.size ≤ k ∧ k < w1.heap.size) okO v1 vo l ro ∧ K3 w (w1.setCell ⟨g, 6, none⟩ v1) (fun k => k = g) := by
  have b := h.below h1
  have hR := Kd.R_lower hR0 (Nat.zero_le _)
  have hlt := h.at_.lt
  have ngO : ∀ k, okO k → k ≠ g := fun k hk e => h.gO (e ▸ hk)
  have hsz : (w1.setCell ⟨g, 6, none⟩ v1).heap.size = w1.heap.size := by simp [World.setCell]
  exact ⟨⟨b.at_.set_in v1, Kd.R_far (Kd.R_mono (Kd.R_bound hR) (fun k hk => ⟨hk.1, hk.2.2.1⟩)) (p := ⟨g, 6, none⟩) (fun k hk (e : k = g) => by have := hk.1; omega) _, Kd.R_far b.ho (p := ⟨g, 6, none⟩) ngO _, fun h' => by have := h'.1; omega, h.gO, fun k hk => by rw [hsz]; exact hk.2, fun k hk => by rw [hsz]; exact b.bO k hk, fun k hk hO => by have := h.bO k hO; have := hk.1; omega⟩, (K3.of_below h1 (fun k => k = g)).setCell (p := ⟨g, 6, none⟩) (.inl rfl) _⟩
theorem put_out {w w1 : World} {g : Nat} {s : St} {okI okO : Nat → Prop} {vi vo v1 : Value} {ri ro l : List (List S68)} (h : Both w g s okI okO vi vo ri ro) (h1 : Below w.heap.size w w1) (hR0 : kR.R 61 w1 w.heap.size (fun k => w.heap.size ≤ k) v1 l) :
    Both (w1.setCell ⟨g, 7, none⟩ v1) g s okI (fun k => w.heap.size ≤ k ∧ k < w1.heap.size) vi v1 ri l ∧ K3 w (w1.setCell ⟨g, 7, none⟩ v1) (fun k => k = g) := by
  have b := h.below h1
  have hR := Kd.R_lower hR0 (Nat.zero_le _)
  have hlt := h.at_.lt
  have ngI : ∀ k, okI k → k ≠ g := fun k hk e => h.gI (e ▸ hk)
  have hsz : (w1.setCell ⟨g, 7, none⟩ v1).heap.size = w1.heap.size := by simp [World.setCell]
  exact ⟨⟨b.at_.set_out v1, Kd.R_far b.hi (p := ⟨g, 7, none⟩) ngI _, Kd.R_far (Kd.R_mono (Kd.R_bound hR) (fun k hk => ⟨hk.1, hk.2.2.1⟩)) (p := ⟨g, 7, none⟩) (fun k hk (e : k = g) => by have := hk.1; omega) _, h.gI, fun h' => by have := h'.1; omega, fun k hk => by rw [hsz]; exact b.bI k hk, fun k hk => by rw [hsz]; exact hk.2, fun k hI hk => by have := h.bI k hI; have := hk.1; omega⟩, (K3.of_below h1 (fun k => k = g)).setCell (p := ⟨g, 7, none⟩) (.inl rfl) _⟩
set_option maxHeartbeats 2000000 in
set_option maxRecDepth 100000 in
theorem gather_last (g : Nat) (s : St) (vi vo : Value) (rin rout : List (List S68)) (okI okO : Nat → Prop) (A : Option Addr) (c : Nat) (xs : List (List S68)) (A' : Option Addr) (c' : Nat) (ys : List (List S68)) (okX : Nat → Prop) (w : World) (hk : s.k = 3)
    (h : Both w g s okI okO vi vo rin rout) (hx : Kd.F kR w okX A xs.length xs) (hxc : xs.length ≤ c) (hxs : Sm xs) (hy : Kd.F kR w okX A' ys.length ys) (hyc : ys.length ≤ c') (hys : Sm ys)
    (hX : ∀ k, okX k → k ≠ g) :
    Calls Try.prog 29 #[.pointer (some ⟨g, 0, none⟩), .agg #[.slice A xs.length c, .slice A' ys.length c']] w (fun e w' => e = .returned (.tuple #[]) ∧ GatP w g s okI okO (if xs.length = 0 then rin else lastOf xs) (if ys.length = 0 then rout else lastOf ys) w') := by
  have hu31 := Try.underlying31
  have hxl := hxs.1
  have hyl := hys.1
  have HCX := Aside0.mk (fun (h0 : 0 < xs.length) W (hW : K3 w W (fun k => k = g)) => copied_last A c xs W okX h0 hxc hxs (K3.F hx hW (fun k hk => hX k hk)))
  have HCY := Aside0.mk (fun (h0 : 0 < ys.length) W (hW : K3 w W (fun k => k = g)) => copied_last A' c' ys W okX h0 hyc hys (K3.F hy hW (fun k hk => hX k hk)))
  have HB := Aside0.mk h
  have hlt := h.at_.lt
  obtain ⟨a0, a1, a2, a3, a4, a5, a6, a7, a8⟩ := h.at_.cells
  have f6 := h.at_.frozen 6
  have f7 := h.at_.frozen 7
  obtain ⟨k, n, t, clock, border, events, told⟩ := s
  simp only at hk
  subst hk
  by_cases x0 : xs.length = 0
  · rw [if_pos x0]
    have hx0 : xs.length ≤ 0 := by omega
    by_cases y0 : ys.length = 0
    · rw [if_pos y0]
      have hy0 : ys.length ≤ 0 := by omega
      clear h hx hy hxs hys hX x0 y0
      go_enter Try.func29, Try.ntmps29
      go_wp2
      go_end0
      exact ⟨rfl, vi, vo, okI, okO, HB.out.below (below_alloc (Below.refl _ _) _), (K3.refl w _).alloc _, fun k hk => .inl hk, fun k hk => .inl hk⟩
    · rw [if_neg y0]
      have hy0 : 0 < ys.length := by omega
      clear h hx hy hxs hys hX x0 y0
      go_enter Try.func29, Try.ntmps29
      go_wp2_with (first | (go_at_call 27; (with_reducible refine (HCY.out hy0 _ (by repeat (first | exact K3.refl _ _ | apply K3.alloc))).mono ?_); rintro e w1 ⟨v1, rfl, hR1, hb1⟩; obtain ⟨A2, c2, rfl⟩ := Kd.R_slice hR1; have HP := Aside0.mk (put_out (HB.out.below (below_alloc (Below.refl _ _) _)) hb1 hR1); have q7 := (At.below (HB.out.below (below_alloc (Below.refl w.heap.size w) (.cells #[.slice A xs.length c, .slice A' ys.length c'] 31))).at_ hb1).frozen 7; obtain ⟨b0, b1, b2, b3, b4, b5, b6, b7, b8⟩ := (At.below (HB.out.below (below_alloc (Below.refl w.heap.size w) (.cells #[.slice A xs.length c, .slice A' ys.length c'] 31))).at_ hb1).cells; clear hb1 hR1))
      go_end0
      exact ⟨rfl, _, _, _, _, HP.out.1, ((K3.refl w _).alloc _).then_ HP.out.2 (fun k e => .inl (.inl e)), fun k hk => .inl hk, fun k hk => .inr (by have := hk.1; simp at this; omega)⟩
  · rw [if_neg x0]
    have hx0 : 0 < xs.length := by omega
    by_cases y0 : ys.length = 0
    · rw [if_pos y0]
      have hy0 : ys.length ≤ 0 := by omega
      clear h hx hy hxs hys hX x0 y0
      go_enter Try.func29, Try.ntmps29
      go_wp2_with (first | (go_at_call 27; (with_reducible refine (HCX.out hx0 _ (by repeat (first | exact K3.refl _ _ | apply K3.alloc))).mono ?_); rintro e w1 ⟨v1, rfl, hR1, hb1⟩; obtain ⟨A2, c2, rfl⟩ := Kd.R_slice hR1; have HP := Aside0.mk (put_in (HB.out.below (below_alloc (Below.refl _ _) _)) hb1 hR1); have z1 := pw_cell_below hb1 (a := ⟨w.heap.size, 1, none⟩) (v := .slice A' ys.length c') (by go_simp); have hA1 := At.below (HB.out.below (below_alloc (Below.refl w.heap.size w) (.cells #[.slice A xs.length c, .slice A' ys.length c'] 31))).at_ hb1; have q6 := hA1.frozen 6; have q7 := hA1.frozen 7; obtain ⟨b0, b1, b2, b3, b4, b5, b6, b7, b8⟩ := hA1.cells; have HW1 := Aside0.mk hb1; clear hA1 hb1 hR1))
      go_end0
      exact ⟨rfl, _, _, _, _, HP.out.1, ((K3.refl w _).alloc _).then_ HP.out.2 (fun k e => .inl (.inl e)), fun k hk => .inr (by have := hk.1; simp at this; omega), fun k hk => .inl hk⟩
    · rw [if_neg y0]
      have hy0 : 0 < ys.length := by omega
      clear h hx hy hxs hys hX x0 y0
      go_enter Try.func29, Try.ntmps29
      go_wp2_with (first | (go_at_call 27; (with_reducible refine (HCX.out hx0 _ (by repeat (first | exact K3.refl _ _ | apply K3.alloc))).mono ?_); rintro e w1 ⟨v1, rfl, hR1, hb1⟩; obtain ⟨A2, c2, rfl⟩ := Kd.R_slice hR1; have HP := Aside0.mk (put_in (HB.out.below (below_alloc (Below.refl _ _) _)) hb1 hR1); have z1 := pw_cell_below hb1 (a := ⟨w.heap.size, 1, none⟩) (v := .slice A' ys.length c') (by go_simp); have hA1 := At.below (HB.out.below (below_alloc (Below.refl w.heap.size w) (.cells #[.slice A xs.length c, .slice A' ys.length c'] 31))).at_ hb1; have q6 := hA1.frozen 6; have q7 := hA1.frozen 7; obtain ⟨b0, b1, b2, b3, b4, b5, b6, b7, b8⟩ := hA1.cells; have HW1 := Aside0.mk hb1; clear hA1 hb1 hR1) | (go_at_call 27; (with_reducible refine (HCY.out hy0 _ (((K3.refl w _).alloc _).then_ HP.out.2 (fun k e => .inl e))).mono ?_); rintro e w3 ⟨v3, rfl, hR3, hb3⟩; obtain ⟨A4, c4, rfl⟩ := Kd.R_slice hR3; have HP3 := Aside0.mk (put_out HP.out.1 hb3 hR3); have q7' := (At.below HP.out.1.at_ hb3).frozen 7; obtain ⟨d0, d1, d2, d3, d4, d5, d6, d7, d8⟩ := (At.below HP.out.1.at_ hb3).cells; clear hb3 hR3))
      go_end0
      exact ⟨rfl, _, _, _, _, HP3.out.1, (((K3.refl w _).alloc _).then_ HP.out.2 (fun k e => .inl (.inl e))).then_ HP3.out.2 (fun k e => .inl (.inl e)), fun k hk => .inr (by have := hk.1; simp at this; omega), fun k hk => .inr (by have h1 := hk.1; have h2 := HP.out.2.1; simp at h1 h2; omega)⟩
end Go.Proofs.Yteklabhmmfklbaa
