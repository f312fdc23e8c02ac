import Derived.Test.YtnfaoofddokjgaaDoorEvent
namespace Go.Proofs.YtnfaoofddokjgaaDoor
open Go.RowKit Print Go.Proofs.YtnfaoofddokjgaaDoorW.PrintWords Go.Proofs.YtnfaoofddokjgaaDoorW.PrintLast Go.Proofs.YtnfaoofddokjgaaDoorW.PrintMore
set_option linter.unusedVariables false
set_option linter.unusedSimpArgs false
set_option maxHeartbeats 8000000 in
set_option maxRecDepth 100000 in
theorem events_any (A : Option Addr) (c : Nat) (l : List (ByteArray × List S40)) (nm : ByteArray) (B : Option Addr) (b : Nat) (r : List S38) (w : World) (hld : LaidW w) (hl : Kd.C k24 w A l.length l) (hc : l.length ≤ c) (hsm : ∀ x ∈ l, x.2.length < 5864062014805) (hr : Kd.C k38 w B r.length r) (hb : r.length ≤ b) (hg : r.length ≤ maxLen ∧ ∀ x ∈ r, good38 x) :
    Calls Tryd.prog 7 #[.slice A l.length c, .agg #[.string nm, .slice B r.length b]] w fun e w' => e = .returned (.bool true) ∧ Below w.heap.size w w' := by
  have hu24 := Tryd.underlying24
  have hu48 := Tryd.underlying48
  have HF := Aside0.mk (fun (u : World) (hu : Below w.heap.size w u) => find_any nm A c l u (Kd.C_below hl hu) hc hsm)
  have HG := Aside0.mk (fun (u : World) (hu : Below w.heap.size w u) => rfind_any nm A c l u (Kd.C_below hl hu) hc)
  have HEV := Aside0.mk (fun (u : World) (hu : Below w.heap.size w u) => event_any A c l nm B b r u (hld.below hu) (Kd.C_below hl hu) hc hsm (Kd.C_below hr hu) hb hg)
  have HRE := Aside0.mk (fun (u : World) (hu : Below w.heap.size w u) => revent_any A c l nm B b r u (Kd.C_below hl hu) hc (Kd.C_below hr hu) hb hg)
  have hl1 : (fnd nm l).2.1.length ≤ maxLen := by
    unfold fnd
    split
    · have hm : rd24 l (whereFrom nm l 0 : Nat) ∈ l := by
        rename_i h
        have : rd24 l (whereFrom nm l 0 : Nat) = l[whereFrom nm l 0] := by unfold rd24; rw [Int.toNat_natCast, List.getD_eq_getElem?_getD, List.getElem?_eq_getElem h]; rfl
        rw [this]; exact List.getElem_mem _
      have := hsm _ hm
      have h2 : (rd24 l (whereFrom nm l 0 : Nat)).2.length ≤ maxLen := by unfold maxLen; omega
      exact h2
    · show 0 ≤ maxLen
      exact Nat.zero_le _
  obtain ⟨⟨f0, f1, f2⟩, hf⟩ : ∃ f, fnd nm l = f := ⟨_, rfl⟩
  rw [hf] at HF HG hl1
  obtain ⟨ev, hev⟩ : ∃ ev, evV l nm r = ev := ⟨_, rfl⟩
  rw [hev] at HEV HRE
  obtain ⟨k, hk⟩ := (rSame_ev f0 f0 f1 f1 hl1).rounds
  rw [schV_self] at hk
  have HSM := Aside0.mk hk
  obtain ⟨k2, hk2⟩ := awake_ev.rounds
  have HAW := Aside0.mk hk2
  have HLD := Aside0.mk hld
  clear hl hc hsm hr hb hg hf hev hk hk2 hld hl1
  go_enter Tryd.func7, Tryd.ntmps7
  go_upto_region 2 with (first | (go_at_call 21; refine (HF.out _ (by repeat (first | exact Below.refl _ _ | apply below_alloc | apply pw_below_drewN | apply below_drew1))).mono ?_; rintro e w1 ⟨B1, b1, rfl, hl1, hC1, hb1⟩; have HB1 := Aside0.mk (below_step (by repeat (first | exact Below.refl _ _ | apply below_alloc | apply pw_below_drewN | apply below_drew1)) hb1 : Below w.heap.size w w1); have HC1 := Aside0.mk (And.intro hl1 hC1); have HB3 := Aside0.mk (blk_below (heap_alloc_new w (.cells #[.string nm, .slice B r.length b] 48)) hb1); clear hb1 hl1 hC1 HF))
  have HW2 := Aside0.mk (below_step HB1.out (below_alloc (Below.refl _ _) (.cells #[.string f0, .slice B1 f1.length b1] 24)))
  have hx5 : (w1.alloc (.cells #[.string f0, .slice B1 f1.length b1] 24)).heap[w1.heap.size]? = some (.cells #[.string f0, .slice B1 f1.length b1] 24 (0, 0)) := heap_alloc_new w1 _
  have hx3 : (w1.alloc (.cells #[.string f0, .slice B1 f1.length b1] 24)).heap[w.heap.size]? = some (.cells #[.string nm, .slice B r.length b] 48 (0, 0)) := blk_alloc HB3.out _
  have HC2 := Aside0.mk (And.intro HC1.out.1 (Kd.C_below HC1.out.2 (below_alloc (Below.refl _ _) (.cells #[.string f0, .slice B1 f1.length b1] 24))))
  generalize (w1.alloc (.cells #[.string f0, .slice B1 f1.length b1] 24)) = w2 at *
  generalize w1.heap.size = p5 at *
  have z2 := blk_cell hx3 0
  have HX := Aside0.mk (And.intro hx5 hx3)
  clear hx5 hx3
  go_upto_region 3 with (first | (go_at_call 22; refine (HG.out _ (below_step HW2.out (by repeat (first | exact Below.refl _ _ | apply below_alloc | apply pw_below_drewN | apply below_drew1)))).mono ?_; rintro e w3 ⟨B2, b2, rfl, hl2, hC3, hb3⟩; have HB4 := Aside0.mk (below_step (by repeat (first | exact Below.refl _ _ | apply below_alloc | apply pw_below_drewN | apply below_drew1)) hb3 : Below w2.heap.size w2 w3); have HC3 := Aside0.mk (And.intro hl2 hC3); clear hb3 hl2 hC3 HG))
  have HW4 := Aside0.mk (below_step HB4.out (below_alloc (Below.refl _ _) (.cells #[.string f0, .slice B2 f1.length b2] 24)))
  have hx7 : (w3.alloc (.cells #[.string f0, .slice B2 f1.length b2] 24)).heap[w3.heap.size]? = some (.cells #[.string f0, .slice B2 f1.length b2] 24 (0, 0)) := heap_alloc_new w3 _
  have hx5 := blk_below HX.out.1 HW4.out
  have hx3 := blk_below HX.out.2 HW4.out
  have HC4 := Aside0.mk (And.intro HC3.out.1 (Kd.C_below HC3.out.2 (below_alloc (Below.refl _ _) (.cells #[.string f0, .slice B2 f1.length b2] 24))))
  have HC5 := Aside0.mk (And.intro HC2.out.1 (Kd.C_below HC2.out.2 HW4.out))
  have HWA := Aside0.mk (below_step HW2.out HW4.out)
  generalize (w3.alloc (.cells #[.string f0, .slice B2 f1.length b2] 24)) = w4 at *
  generalize w3.heap.size = p7 at *
  have a0 : w4.cell? ⟨w.heap.size, 0, none⟩ = some (.string nm) := (blk_cell hx3 0).trans rfl
  have a1 : w4.cell? ⟨w.heap.size, 1, none⟩ = some (.slice B r.length b) := (blk_cell hx3 1).trans rfl
  have a2 : w4.cell? ⟨p5, 0, none⟩ = some (.string f0) := (blk_cell hx5 0).trans rfl
  have a3 : w4.cell? ⟨p5, 1, none⟩ = some (.slice B1 f1.length b1) := (blk_cell hx5 1).trans rfl
  have a4 : w4.cell? ⟨p7, 0, none⟩ = some (.string f0) := (blk_cell hx7 0).trans rfl
  have a5 : w4.cell? ⟨p7, 1, none⟩ = some (.slice B2 f1.length b2) := (blk_cell hx7 1).trans rfl
  clear z2 hx7 hx5 hx3 HX HC1 HC2 HC3 HB1 HB3 HB4 HW2 HW4
  go_region_held3 (fun w' => w'.cell? ⟨w.heap.size, 0, none⟩ = some (.string nm) ∧ w'.cell? ⟨w.heap.size, 1, none⟩ = some (.slice B r.length b) ∧ w'.cell? ⟨p5, 0, none⟩ = some (.string f0) ∧ w'.cell? ⟨p5, 1, none⟩ = some (.slice B1 f1.length b1) ∧ w'.cell? ⟨p7, 0, none⟩ = some (.string f0) ∧ w'.cell? ⟨p7, 1, none⟩ = some (.slice B2 f1.length b2))
    (first | go_keep)
    (first
      | (go_at_call 23; refine (HEV.out _ (below_step HWA.out (by repeat (first | exact Below.refl _ _ | apply below_alloc | apply pw_below_drewN | apply below_drew1)))).mono ?_; rintro e w5 ⟨rfl, hb⟩; have c5_0 := pw_cell_below hb (a := ⟨w.heap.size, 0, none⟩) (v := .string nm) (by go_simp); have c5_1 := pw_cell_below hb (a := ⟨w.heap.size, 1, none⟩) (v := .slice B r.length b) (by go_simp); have c5_2 := pw_cell_below hb (a := ⟨p5, 0, none⟩) (v := .string f0) (by go_simp); have c5_3 := pw_cell_below hb (a := ⟨p5, 1, none⟩) (v := .slice B1 f1.length b1) (by go_simp); have c5_4 := pw_cell_below hb (a := ⟨p7, 0, none⟩) (v := .string f0) (by go_simp); have c5_5 := pw_cell_below hb (a := ⟨p7, 1, none⟩) (v := .slice B2 f1.length b2) (by go_simp); have HB5 := Aside0.mk (below_step (by repeat (first | exact Below.refl _ _ | apply below_alloc | apply pw_below_drewN | apply below_drew1)) hb : Below w4.heap.size w4 w5); clear hb HEV)
      | (go_at_call 24; refine (HRE.out _ (below_step HWA.out (below_step HB5.out (by repeat (first | exact Below.refl _ _ | apply below_alloc | apply pw_below_drewN | apply below_drew1))))).mono ?_; rintro e w6 ⟨rfl, hb⟩; have c6_0 := pw_cell_below hb (a := ⟨w.heap.size, 0, none⟩) (v := .string nm) (by go_simp); have c6_1 := pw_cell_below hb (a := ⟨w.heap.size, 1, none⟩) (v := .slice B r.length b) (by go_simp); have c6_2 := pw_cell_below hb (a := ⟨p5, 0, none⟩) (v := .string f0) (by go_simp); have c6_3 := pw_cell_below hb (a := ⟨p5, 1, none⟩) (v := .slice B1 f1.length b1) (by go_simp); have c6_4 := pw_cell_below hb (a := ⟨p7, 0, none⟩) (v := .string f0) (by go_simp); have c6_5 := pw_cell_below hb (a := ⟨p7, 1, none⟩) (v := .slice B2 f1.length b2) (by go_simp); have HB6 := Aside0.mk (below_step HB5.out (below_step (by repeat (first | exact Below.refl _ _ | apply below_alloc | apply pw_below_drewN | apply below_drew1)) hb)); clear hb HRE)
      | (go_at_call 18; refine (marqueeref03_Same.calls k f0 B1 b1 f1 f0 B2 b2 f1 true _ (Kd.C_below HC5.out.2 (below_step HB6.out (by repeat (first | exact Below.refl _ _ | apply below_alloc | apply pw_below_drewN | apply below_drew1)))) HC5.out.1 (Kd.C_below HC4.out.2 (below_step HB6.out (by repeat (first | exact Below.refl _ _ | apply below_alloc | apply pw_below_drewN | apply below_drew1)))) HC4.out.1 HSM.out).mono ?_; rintro e w7 ⟨rfl, hb⟩; have c7_0 := pw_cell_below hb (a := ⟨w.heap.size, 0, none⟩) (v := .string nm) (by go_simp); have c7_1 := pw_cell_below hb (a := ⟨w.heap.size, 1, none⟩) (v := .slice B r.length b) (by go_simp); have c7_2 := pw_cell_below hb (a := ⟨p5, 0, none⟩) (v := .string f0) (by go_simp); have c7_3 := pw_cell_below hb (a := ⟨p5, 1, none⟩) (v := .slice B1 f1.length b1) (by go_simp); have c7_4 := pw_cell_below hb (a := ⟨p7, 0, none⟩) (v := .string f0) (by go_simp); have c7_5 := pw_cell_below hb (a := ⟨p7, 1, none⟩) (v := .slice B2 f1.length b2) (by go_simp); have HB7 := Aside0.mk (below_step HB6.out (below_step (by repeat (first | exact Below.refl _ _ | apply below_alloc | apply pw_below_drewN | apply below_drew1)) hb)); clear hb HSM)
      | (go_at_call 14; refine (marqueelaw03_awake.calls k2 true _ (HLD.out.below (below_step HWA.out (below_step HB7.out (by repeat (first | exact Below.refl _ _ | apply below_alloc | apply pw_below_drewN | apply below_drew1))))) HAW.out).mono ?_; rintro e w8 ⟨rfl, hb⟩; have c8_0 := pw_cell_below hb (a := ⟨w.heap.size, 0, none⟩) (v := .string nm) (by go_simp); have c8_1 := pw_cell_below hb (a := ⟨w.heap.size, 1, none⟩) (v := .slice B r.length b) (by go_simp); have c8_2 := pw_cell_below hb (a := ⟨p5, 0, none⟩) (v := .string f0) (by go_simp); have c8_3 := pw_cell_below hb (a := ⟨p5, 1, none⟩) (v := .slice B1 f1.length b1) (by go_simp); have c8_4 := pw_cell_below hb (a := ⟨p7, 0, none⟩) (v := .string f0) (by go_simp); have c8_5 := pw_cell_below hb (a := ⟨p7, 1, none⟩) (v := .slice B2 f1.length b2) (by go_simp); have HB8 := Aside0.mk (below_step HB7.out (below_step (by repeat (first | exact Below.refl _ _ | apply below_alloc | apply pw_below_drewN | apply below_drew1)) hb)); clear hb HAW))
  all_goals
    go_wp2_with fail
    go_ret
    exact ⟨by simp, below_step HWA.out HB8.out⟩
end Go.Proofs.YtnfaoofddokjgaaDoor
