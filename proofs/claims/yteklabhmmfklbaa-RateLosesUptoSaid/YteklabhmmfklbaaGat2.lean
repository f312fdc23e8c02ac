import Derived.Test.YteklabhmmfklbaaGat
namespace Go.Proofs.Yteklabhmmfklbaa
open Go.RowKit Print Go.Proofs.YteklabhmmfklbaaW.PrintWords Go.Proofs.YteklabhmmfklbaaW.PrintLast Go.Proofs.YteklabhmmfklbaaW.PrintMore
set_option linter.unusedVariables false
/-- The last row, if there is one. -/
def lastOf (l : List (List S68)) : List (List S68) := l.drop (l.length - 1)
theorem last_length (l : List (List S68)) : l.length - (l.length - 1) = (lastOf l).length := by unfold lastOf; rw [List.length_drop]
theorem cut_last {A : Option Addr} {c : Nat} {l : List (List S68)} (hl : 0 < l.length) (hc : l.length ≤ c) {w : World} {ok : Nat → Prop} (h : Kd.F kR w ok A l.length l) : Kd.F kR w ok (Option.map (fun x => x.add (l.length - 1)) A) (lastOf l).length (lastOf l) := by
  have h2 := Kd.F_cut h (Nat.sub_le l.length 1) hc
  rw [if_neg (by omega)] at h2
  have h1 : kR.sz = 1 := rfl
  simpa [h1, lastOf] using h2
theorem Sm_last {l : List (List S68)} (h : Sm l) : Sm (lastOf l) := ⟨by unfold lastOf; rw [List.length_drop]; have := h.1; omega, fun x hx => h.2 x (List.mem_of_mem_drop hx)⟩
theorem copied_last (A : Option Addr) (c : Nat) (l : List (List S68)) (w : World) (ok : Nat → Prop) (hl : 0 < l.length) (hc : l.length ≤ c) (hs : Sm l) (h : Kd.F kR w ok A l.length l) :
    Calls Try.prog 27 #[.slice (Option.map (fun (x : Addr) => x.add (l.length - 1)) A) (l.length - (l.length - 1)) (c - (l.length - 1))] w fun e w' => ∃ v : Value, e = .returned v ∧ kR.R 61 w' w.heap.size (fun k => w.heap.size ≤ k) v (lastOf l) ∧ Below w.heap.size w w' := by
  rw [last_length]
  exact copied_any _ _ (lastOf l) w (Kd.F_now (cut_last hl hc h)) (by rw [← last_length]; omega) (Sm_last hs)
theorem put_in {w w1 : World} {g : Nat} {s : St} {okI okO : Nat → Prop} {vi vo v1 : Value} {ri ro l : List (List S68)} (h : Both w g s okI okO vi vo ri ro) (h1 : Below w.heap.size w w1) (hR0 : kR.R 61 w1 w.heap.size (fun k => w.heap.size ≤ k) v1 l) :
    Both (w1.setCell ⟨g, 6, none⟩ v1) g s (fun k => w.heap.size ≤ k ∧ k < w1.heap.size) okO v1 vo l ro ∧ K3 w (w1.setCell ⟨g, 6, none⟩ v1) (fun k => k = g) := by
  have b := h.below h1
  have hR := Kd.R_lower hR0 (Nat.zero_le _)
  have hlt := h.at_.lt
  have ngO : ∀ k, okO k → k ≠ g := fun k hk e => h.gO (e ▸ hk)
  have hsz : (w1.setCell ⟨g, 6, none⟩ v1).heap.size = w1.heap.size := by simp [World.setCell]
  exact ⟨⟨b.at_.set_in v1, Kd.R_far (Kd.R_mono (Kd.R_bound hR) (fun k hk => ⟨hk.1, hk.2.2.1⟩)) (p := ⟨g, 6, none⟩) (fun k hk (e : k = g) => by have := hk.1; omega) _, Kd.R_far b.ho (p := ⟨g, 6, none⟩) ngO _, fun h' => by have := h'.1; omega, h.gO, fun k hk => by rw [hsz]; exact hk.2, fun k hk => by rw [hsz]; exact b.bO k hk, fun k hk hO => by have := h.bO k hO; have := hk.1; omega⟩, (K3.of_below h1 (fun k => k = g)).setCell (p := ⟨g, 6, none⟩) (.inl rfl) _⟩
theorem put_out {w w1 : World} {g : Nat} {s : St} {okI okO : Nat → Prop} {vi vo v1 : Value} {ri ro l : List (List S68)} (h : Both w g s okI okO vi vo ri ro) (h1 : Below w.heap.size w w1) (hR0 : kR.R 61 w1 w.heap.size (fun k => w.heap.size ≤ k) v1 l) :
    Both (w1.setCell ⟨g, 7, none⟩ v1) g s okI (fun k => w.heap.size ≤ k ∧ k < w1.heap.size) vi v1 ri l ∧ K3 w (w1.setCell ⟨g, 7, none⟩ v1) (fun k => k = g) := by
  have b := h.below h1
  have hR := Kd.R_lower hR0 (Nat.zero_le _)
  have hlt := h.at_.lt
  have ngI : ∀ k, okI k → k ≠ g := fun k hk e => h.gI (e ▸ hk)
  have hsz : (w1.setCell ⟨g, 7, none⟩ v1).heap.size = w1.heap.size := by simp [World.setCell]
  exact ⟨⟨b.at_.set_out v1, Kd.R_far b.hi (p := ⟨g, 7, none⟩) ngI _, Kd.R_far (Kd.R_mono (Kd.R_bound hR) (fun k hk => ⟨hk.1, hk.2.2.1⟩)) (p := ⟨g, 7, none⟩) (fun k hk (e : k = g) => by have := hk.1; omega) _, h.gI, fun h' => by have := h'.1; omega, fun k hk => by rw [hsz]; exact b.bI k hk, fun k hk => by rw [hsz]; exact hk.2, fun k hI hk => by have := h.bI k hI; have := hk.1; omega⟩, (K3.of_below h1 (fun k => k = g)).setCell (p := ⟨g, 7, none⟩) (.inl rfl) _⟩
set_option maxHeartbeats 2000000 in
set_option maxRecDepth 100000 in
theorem gather_last (g : Nat) (s : St) (vi vo : Value) (rin rout : List (List S68)) (okI okO : Nat → Prop) (A : Option Addr) (c : Nat) (xs : List (List S68)) (A' : Option Addr) (c' : Nat) (ys : List (List S68)) (okX : Nat → Prop) (w : World) (hk : s.k = 3)
    (h : Both w g s okI okO vi vo rin rout) (hx : Kd.F kR w okX A xs.length xs) (hxc : xs.length ≤ c) (hxs : Sm xs) (hy : Kd.F kR w okX A' ys.length ys) (hyc : ys.length ≤ c') (hys : Sm ys)
    (hX : ∀ k, okX k → k ≠ g) :
    Calls Try.prog 29 #[.pointer (some ⟨g, 0, none⟩), .agg #[.slice A xs.length c, .slice A' ys.length c']] w (fun e w' => e = .returned (.tuple #[]) ∧ GatP w g s okI okO (if xs.length = 0 then rin else lastOf xs) (if ys.length = 0 then rout else lastOf ys) w') := by
  have hu31 := Try.underlying31
  have hxl := hxs.1
  have hyl := hys.1
  have HCX := Aside0.mk (fun (h0 : 0 < xs.length) W (hW : K3 w W (fun k => k = g)) => copied_last A c xs W okX h0 hxc hxs (K3.F hx hW (fun k hk => hX k hk)))
  have HCY := Aside0.mk (fun (h0 : 0 < ys.length) W (hW : K3 w W (fun k => k = g)) => copied_last A' c' ys W okX h0 hyc hys (K3.F hy hW (fun k hk => hX k hk)))
  have HB := Aside0.mk h
  have hlt := h.at_.lt
  obtain ⟨a0, a1, a2, a3, a4, a5, a6, a7, a8⟩ := h.at_.cells
  have f6 := h.at_.frozen 6
  have f7 := h.at_.frozen 7
  obtain ⟨k, n, t, clock, border, events, told⟩ := s
  simp only at hk
  subst hk
  by_cases x0 : xs.length = 0
  · rw [if_pos x0]
    have hx0 : xs.length ≤ 0 := by omega
    by_cases y0 : ys.length = 0
    · rw [if_pos y0]
      have hy0 : ys.length ≤ 0 := by omega
      clear h hx hy hxs hys hX x0 y0
      go_enter Try.func29, Try.ntmps29
      go_wp2
      go_end0
      exact ⟨rfl, vi, vo, okI, okO, HB.out.below (below_alloc (Below.refl _ _) _), (K3.refl w _).alloc _, fun k hk => .inl hk, fun k hk => .inl hk⟩
    · rw [if_neg y0]
      have hy0 : 0 < ys.length := by omega
      clear h hx hy hxs hys hX x0 y0
      go_enter Try.func29, Try.ntmps29
      go_wp2_with (first | (go_at_call 27; (with_reducible refine (HCY.out hy0 _ (by repeat (first | exact K3.refl _ _ | apply K3.alloc))).mono ?_); rintro e w1 ⟨v1, rfl, hR1, hb1⟩; obtain ⟨A2, c2, rfl⟩ := Kd.R_slice hR1; have HP := Aside0.mk (put_out (HB.out.below (below_alloc (Below.refl _ _) _)) hb1 hR1); have q7 := (At.below (HB.out.below (below_alloc (Below.refl w.heap.size w) (.cells #[.slice A xs.length c, .slice A' ys.length c'] 31))).at_ hb1).frozen 7; obtain ⟨b0, b1, b2, b3, b4, b5, b6, b7, b8⟩ := (At.below (HB.out.below (below_alloc (Below.refl w.heap.size w) (.cells #[.slice A xs.length c, .slice A' ys.length c'] 31))).at_ hb1).cells; clear hb1 hR1))
      go_end0
      exact ⟨rfl, _, _, _, _, HP.out.1, ((K3.refl w _).alloc _).then_ HP.out.2 (fun k e => .inl (.inl e)), fun k hk => .inl hk, fun k hk => .inr (by have := hk.1; simp at this; omega)⟩
  · rw [if_neg x0]
    have hx0 : 0 < xs.length := by omega
    by_cases y0 : ys.length = 0
    · rw [if_pos y0]
      have hy0 : ys.length ≤ 0 := by omega
      clear h hx hy hxs hys hX x0 y0
      go_enter Try.func29, Try.ntmps29
      go_wp2_with (first | (go_at_call 27; (with_reducible refine (HCX.out hx0 _ (by repeat (first | exact K3.refl _ _ | apply K3.alloc))).mono ?_); rintro e w1 ⟨v1, rfl, hR1, hb1⟩; obtain ⟨A2, c2, rfl⟩ := Kd.R_slice hR1; have HP := Aside0.mk (put_in (HB.out.below (below_alloc (Below.refl _ _) _)) hb1 hR1); have z1 := pw_cell_below hb1 (a := ⟨w.heap.size, 1, none⟩) (v := .slice A' ys.length c') (by go_simp); have hA1 := At.below (HB.out.below (below_alloc (Below.refl w.heap.size w) (.cells #[.slice A xs.length c, .slice A' ys.length c'] 31))).at_ hb1; have q6 := hA1.frozen 6; have q7 := hA1.frozen 7; obtain ⟨b0, b1, b2, b3, b4, b5, b6, b7, b8⟩ := hA1.cells; have HW1 := Aside0.mk hb1; clear hA1 hb1 hR1))
      go_end0
      exact ⟨rfl, _, _, _, _, HP.out.1, ((K3.refl w _).alloc _).then_ HP.out.2 (fun k e => .inl (.inl e)), fun k hk => .inr (by have := hk.1; simp at this; omega), fun k hk => .inl hk⟩
    · rw [if_neg y0]
      have hy0 : 0 < ys.length := by omega
      clear h hx hy hxs hys hX x0 y0
      go_enter Try.func29, Try.ntmps29
      go_wp2_with (first | (go_at_call 27; (with_reducible refine (HCX.out hx0 _ (by repeat (first | exact K3.refl _ _ | apply K3.alloc))).mono ?_); rintro e w1 ⟨v1, rfl, hR1, hb1⟩; obtain ⟨A2, c2, rfl⟩ := Kd.R_slice hR1; have HP := Aside0.mk (put_in (HB.out.below (below_alloc (Below.refl _ _) _)) hb1 hR1); have z1 := pw_cell_below hb1 (a := ⟨w.heap.size, 1, none⟩) (v := .slice A' ys.length c') (by go_simp); have hA1 := At.below (HB.out.below (below_alloc (Below.refl w.heap.size w) (.cells #[.slice A xs.length c, .slice A' ys.length c'] 31))).at_ hb1; have q6 := hA1.frozen 6; have q7 := hA1.frozen 7; obtain ⟨b0, b1, b2, b3, b4, b5, b6, b7, b8⟩ := hA1.cells; have HW1 := Aside0.mk hb1; clear hA1 hb1 hR1) | (go_at_call 27; (with_reducible refine (HCY.out hy0 _ (((K3.refl w _).alloc _).then_ HP.out.2 (fun k e => .inl e))).mono ?_); rintro e w3 ⟨v3, rfl, hR3, hb3⟩; obtain ⟨A4, c4, rfl⟩ := Kd.R_slice hR3; have HP3 := Aside0.mk (put_out HP.out.1 hb3 hR3); have q7' := (At.below HP.out.1.at_ hb3).frozen 7; obtain ⟨d0, d1, d2, d3, d4, d5, d6, d7, d8⟩ := (At.below HP.out.1.at_ hb3).cells; clear hb3 hR3))
      go_end0
      exact ⟨rfl, _, _, _, _, HP3.out.1, (((K3.refl w _).alloc _).then_ HP.out.2 (fun k e => .inl (.inl e))).then_ HP3.out.2 (fun k e => .inl (.inl e)), fun k hk => .inr (by have := hk.1; simp at this; omega), fun k hk => .inr (by have h1 := hk.1; have h2 := HP.out.2.1; simp at h1 h2; omega)⟩
end Go.Proofs.Yteklabhmmfklbaa
