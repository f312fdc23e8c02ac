import Derived.Test.YtnfaoofddokjgaaDoorFindR
namespace Go.Proofs.YtnfaoofddokjgaaDoor
open Go.RowKit Print Go.Proofs.YtnfaoofddokjgaaDoorW.PrintWords Go.Proofs.YtnfaoofddokjgaaDoorW.PrintLast Go.Proofs.YtnfaoofddokjgaaDoorW.PrintMore
set_option linter.unusedVariables false
set_option linter.unusedSimpArgs false
/-- Which event may be. -/
noncomputable def evV (l : List (ByteArray × List S40)) (nm : ByteArray) (r : List S38) : Int := if (fnd nm l).2.2 = true then fitsV (fnd nm l).2.1 r else 110
set_option maxHeartbeats 4000000 in
set_option maxRecDepth 100000 in
theorem event_any (A : Option Addr) (c : Nat) (l : List (ByteArray × List S40)) (nm : ByteArray) (B : Option Addr) (b : Nat) (r : List S38) (w : World) (hld : LaidW w) (hl : Kd.C k24 w A l.length l) (hc : l.length ≤ c) (hsm : ∀ x ∈ l, x.2.length < 5864062014805) (hr : Kd.C k38 w B r.length r) (hb : r.length ≤ b) (hg : r.length ≤ maxLen ∧ ∀ x ∈ r, good38 x) :
    Calls Tryd.prog 23 #[.slice A l.length c, .agg #[.string nm, .slice B r.length b]] w fun e w' => e = .returned (.int .i64 (evV l nm r)) ∧ Below w.heap.size w w' := by
  have hu24 := Tryd.underlying24
  have hu48 := Tryd.underlying48
  have HX := Aside0.mk (And.intro hl (And.intro hr hg))
  have HF := Aside0.mk (fun (u : World) (hu : Below w.heap.size w u) => find_any nm A c l u (Kd.C_below hl hu) hc hsm)
  have HLD := Aside0.mk hld
  clear hld
  obtain ⟨⟨f0, f1, f2⟩, hf⟩ : ∃ f, fnd nm l = f := ⟨_, rfl⟩
  have HV : Aside0 (evV l nm r = if f2 = true then fitsV f1 r else 110) := ⟨by unfold evV; rw [hf]⟩
  obtain ⟨ev, hev⟩ : ∃ ev, evV l nm r = ev := ⟨_, rfl⟩
  rw [hev] at HV ⊢
  rw [hf] at HF
  obtain ⟨k, hk⟩ := (sFits_ev f0 f1 r hg).rounds
  have HK := Aside0.mk hk
  clear hl hr hg hf hk hev
  go_enter Tryd.func23, Tryd.ntmps23
  go_upto_region 2 with (first | (go_at_call 21; refine (HF.out _ (by repeat (first | exact Below.refl _ _ | apply below_alloc | apply pw_below_drewN | apply below_drew1))).mono ?_; rintro e w1 ⟨B1, b1, rfl, hl1, hC1, hb1⟩; have HB1 := Aside0.mk (below_step (by repeat (first | exact Below.refl _ _ | apply below_alloc | apply pw_below_drewN | apply below_drew1)) hb1 : Below w.heap.size w w1); have HC1 := Aside0.mk (And.intro hl1 hC1); have HB3 := Aside0.mk (blk_below (heap_alloc_new w (.cells #[.string nm, .slice B r.length b] 48)) hb1); clear hb1 hl1 hC1 HF))
  have HW2 := Aside0.mk (below_step HB1.out (below_alloc (Below.refl _ _) (.cells #[.string f0, .slice B1 f1.length b1] 24)))
  have hx5 : (w1.alloc (.cells #[.string f0, .slice B1 f1.length b1] 24)).heap[w1.heap.size]? = some (.cells #[.string f0, .slice B1 f1.length b1] 24 (0, 0)) := heap_alloc_new w1 _
  have hx3 : (w1.alloc (.cells #[.string f0, .slice B1 f1.length b1] 24)).heap[w.heap.size]? = some (.cells #[.string nm, .slice B r.length b] 48 (0, 0)) := blk_alloc HB3.out _
  have HC2 := Aside0.mk (And.intro HC1.out.1 (Kd.C_below HC1.out.2 (below_alloc (Below.refl _ _) (.cells #[.string f0, .slice B1 f1.length b1] 24))))
  generalize (w1.alloc (.cells #[.string f0, .slice B1 f1.length b1] 24)) = w2 at *
  have z0 := blk_cell hx5 0
  have z1 := blk_cell hx5 1
  have z2 := blk_cell hx3 0
  have z3 := blk_cell hx3 1
  clear hx5 hx3
  cases f2
  · have HE : Aside0 (ev = 110) := ⟨by simpa using HV.out⟩
    clear HV
    go_wp2
    go_ret
    exact ⟨by rw [HE.out]; rfl, below_step HW2.out (by repeat (first | exact Below.refl _ _ | apply below_alloc | apply pw_below_drewN | apply below_drew1))⟩
  · have HE : Aside0 (ev = fitsV f1 r) := ⟨by simpa using HV.out⟩
    clear HV
    go_wp2_with (first | (go_at_call 15; refine (schema_Fits.calls k f0 B1 b1 f1 B b r (fitsV f1 r) _ (HLD.out.below (below_step HW2.out (by repeat (first | exact Below.refl _ _ | apply below_alloc | apply pw_below_drewN | apply below_drew1)))) (Kd.C_below HC2.out.2 (by repeat (first | exact Below.refl _ _ | apply below_alloc | apply pw_below_drewN | apply below_drew1))) HC2.out.1 (Kd.C_below HX.out.2.1 (below_step HW2.out (by repeat (first | exact Below.refl _ _ | apply below_alloc | apply pw_below_drewN | apply below_drew1)))) hb HK.out).mono ?_; rintro e w3 ⟨rfl, hb3⟩; have HB4 := Aside0.mk (below_step (below_step HW2.out (by repeat (first | exact Below.refl _ _ | apply below_alloc | apply pw_below_drewN | apply below_drew1))) hb3); clear hb3))
    go_ret
    exact ⟨by rw [HE.out]; rfl, HB4.out⟩
set_option maxHeartbeats 4000000 in
set_option maxRecDepth 100000 in
theorem revent_any (A : Option Addr) (c : Nat) (l : List (ByteArray × List S40)) (nm : ByteArray) (B : Option Addr) (b : Nat) (r : List S38) (w : World) (hl : Kd.C k24 w A l.length l) (hc : l.length ≤ c) (hr : Kd.C k38 w B r.length r) (hb : r.length ≤ b) (hg : r.length ≤ maxLen ∧ ∀ x ∈ r, good38 x) :
    Calls Tryd.prog 24 #[.slice A l.length c, .agg #[.string nm, .slice B r.length b]] w fun e w' => e = .returned (.int .i64 (evV l nm r)) ∧ Below w.heap.size w w' := by
  have hu24 := Tryd.underlying24
  have hu48 := Tryd.underlying48
  have HX := Aside0.mk (And.intro hl (And.intro hr hg))
  have HF := Aside0.mk (fun (u : World) (hu : Below w.heap.size w u) => rfind_any nm A c l u (Kd.C_below hl hu) hc)
  obtain ⟨⟨f0, f1, f2⟩, hf⟩ : ∃ f, fnd nm l = f := ⟨_, rfl⟩
  have HV : Aside0 (evV l nm r = if f2 = true then fitsV f1 r else 110) := ⟨by unfold evV; rw [hf]⟩
  obtain ⟨ev, hev⟩ : ∃ ev, evV l nm r = ev := ⟨_, rfl⟩
  rw [hev] at HV ⊢
  rw [hf] at HF
  obtain ⟨k, hk⟩ := (rFits_ev f0 f1 r hg).rounds
  have HK := Aside0.mk hk
  clear hl hr hg hf hk hev
  go_enter Tryd.func24, Tryd.ntmps24
  go_upto_region 2 with (first | (go_at_call 22; refine (HF.out _ (by repeat (first | exact Below.refl _ _ | apply below_alloc | apply pw_below_drewN | apply below_drew1))).mono ?_; rintro e w1 ⟨B1, b1, rfl, hl1, hC1, hb1⟩; have HB1 := Aside0.mk (below_step (by repeat (first | exact Below.refl _ _ | apply below_alloc | apply pw_below_drewN | apply below_drew1)) hb1 : Below w.heap.size w w1); have HC1 := Aside0.mk (And.intro hl1 hC1); have HB3 := Aside0.mk (blk_below (heap_alloc_new w (.cells #[.string nm, .slice B r.length b] 48)) hb1); clear hb1 hl1 hC1 HF))
  have HW2 := Aside0.mk (below_step HB1.out (below_alloc (Below.refl _ _) (.cells #[.string f0, .slice B1 f1.length b1] 24)))
  have hx5 : (w1.alloc (.cells #[.string f0, .slice B1 f1.length b1] 24)).heap[w1.heap.size]? = some (.cells #[.string f0, .slice B1 f1.length b1] 24 (0, 0)) := heap_alloc_new w1 _
  have hx3 : (w1.alloc (.cells #[.string f0, .slice B1 f1.length b1] 24)).heap[w.heap.size]? = some (.cells #[.string nm, .slice B r.length b] 48 (0, 0)) := blk_alloc HB3.out _
  have HC2 := Aside0.mk (And.intro HC1.out.1 (Kd.C_below HC1.out.2 (below_alloc (Below.refl _ _) (.cells #[.string f0, .slice B1 f1.length b1] 24))))
  generalize (w1.alloc (.cells #[.string f0, .slice B1 f1.length b1] 24)) = w2 at *
  have z0 := blk_cell hx5 0
  have z1 := blk_cell hx5 1
  have z2 := blk_cell hx3 0
  have z3 := blk_cell hx3 1
  clear hx5 hx3
  cases f2
  · have HE : Aside0 (ev = 110) := ⟨by simpa using HV.out⟩
    clear HV
    go_wp2
    go_ret
    exact ⟨by rw [HE.out]; rfl, below_step HW2.out (by repeat (first | exact Below.refl _ _ | apply below_alloc | apply pw_below_drewN | apply below_drew1))⟩
  · have HE : Aside0 (ev = fitsV f1 r) := ⟨by simpa using HV.out⟩
    clear HV
    go_wp2_with (first | (go_at_call 16; refine (marqueeref03_Fits.calls k f0 B1 b1 f1 B b r (fitsV f1 r) _  (Kd.C_below HC2.out.2 (by repeat (first | exact Below.refl _ _ | apply below_alloc | apply pw_below_drewN | apply below_drew1))) HC2.out.1 (Kd.C_below HX.out.2.1 (below_step HW2.out (by repeat (first | exact Below.refl _ _ | apply below_alloc | apply pw_below_drewN | apply below_drew1)))) hb HK.out).mono ?_; rintro e w3 ⟨rfl, hb3⟩; have HB4 := Aside0.mk (below_step (below_step HW2.out (by repeat (first | exact Below.refl _ _ | apply below_alloc | apply pw_below_drewN | apply below_drew1))) hb3); clear hb3))
    go_ret
    exact ⟨by rw [HE.out]; rfl, HB4.out⟩
end Go.Proofs.YtnfaoofddokjgaaDoor
