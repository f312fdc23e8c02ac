import Derived.Test.YteklabhmmfklbaaFeedL
namespace Go.Proofs.Yteklabhmmfklbaa
open Go.RowKit Print Go.Proofs.YteklabhmmfklbaaW.PrintWords Go.Proofs.YteklabhmmfklbaaW.PrintLast Go.Proofs.YteklabhmmfklbaaW.PrintMore
attribute [local go_sem] max2_int min2_int max_two min_two
set_option linter.unusedVariables false
set_option linter.unusedSimpArgs false
set_option maxHeartbeats 4000000 in
set_option maxRecDepth 100000 in
theorem feed_any (g : Nat) (s : St) (vi vo : Value) (rin rout : RowsL) (okI okO : Nat → Prop) (now ev : Int) (A : Option Addr) (c : Nat) (xs : RowsL) (A' : Option Addr) (c' : Nat) (ys : RowsL) (A2 : Option Addr) (c2 : Nat) (all : RowsL) (okX : Nat → Prop) (w : World)
    (h : Both w g s okI okO vi vo rin rout) (hG : Good s) (hsi : Sm rin) (hso : Sm rout)
    (hx : Kd.F kR w okX A xs.length xs) (hxc : xs.length ≤ c) (hxs : Sm xs) (hy : Kd.F kR w okX A' ys.length ys) (hyc : ys.length ≤ c') (hys : Sm ys) (ha : Kd.F kR w okX A2 all.length all) (hac : all.length ≤ c2) (has : Sm all)
    (hX : ∀ k, okX k → k ≠ g ∧ ¬ okI k ∧ ¬ okO k) (hev : 0 ≤ s.events ∧ s.events ≤ late) (hzi : rin.length + xs.length ≤ 2097152) (hzo : rout.length + ys.length ≤ 2097152) (hmany : s.t = true → mn (mn (mx now s.clock) late) late + 1 - s.border ≤ 4002 * s.n) :
    Calls Try.prog 10 #[.pointer (some ⟨g, 0, none⟩), .int .i64 now, .int .i64 ev, .agg #[.slice A xs.length c, .slice A' ys.length c'], .slice A2 all.length c2] w (fun e w' => ∃ v, e = .returned v ∧ FeedI w g okI okO (feed s rin rout now ev xs ys all) v w') := by
  have hu31 := Try.underlying31
  have hu43 := Try.underlying43
  have hlt := h.at_.lt
  obtain ⟨a0, a1, a2, a3, a4, a5, a6, a7, a8⟩ := h.at_.cells
  obtain ⟨m1, hm1⟩ : ∃ m1, mx now s.clock = m1 := ⟨_, rfl⟩
  rw [hm1] at hmany
  obtain ⟨nw, hnw⟩ : ∃ nw, mn m1 late = nw := ⟨_, rfl⟩
  rw [hnw] at hmany
  have e1 : (if now < s.clock then s.clock else now) = m1 := hm1
  have e2 : (if 1152921504606846976 < m1 then 1152921504606846976 else m1) = nw := hnw
  have HADV := Aside0.mk (fun W (hW : Below w.heap.size w W) => adv_any g s vi vo rin rout okI okO nw A2 c2 all okX W (h.below hW) hG hsi hso (Kd.F_below ha hW) (fun hk => (hX g hk).1 rfl) hac has hmany)
  have hkp := adv_keeps s rin rout nw all
  have hln := adv_len s rin rout nw all
  obtain ⟨⟨⟨k1, n1, t1, clock1, border1, events1, told1⟩, ri, ro, ds⟩, hR⟩ : ∃ R, adv s rin rout nw all = R := ⟨_, rfl⟩
  rw [hR] at HADV hkp hln
  simp only at hkp hln
  have HKK := Aside0.mk (show k1 = 0 ∨ k1 = 1 ∨ k1 = 2 ∨ k1 = 3 ∨ k1 = 4 by rw [hkp.1]; exact hG.k0)
  have HN1 := Aside0.mk (show (t1 = true → 1 ≤ n1) by rw [hkp.2.1, hkp.2.2.1]; exact hG.n1)
  have HLN := Aside0.mk hln
  have HEV : Aside0 (0 ≤ events1 ∧ events1 ≤ 1152921504606846976) := ⟨by rw [hkp.2.2.2]; exact hev⟩
  have HSM2 : Aside0 (Sm (feedG (⟨k1, n1, t1, clock1, border1, events1, told1⟩, ri, ro, ds) nw xs ys).2.1 ∧ Sm (feedG (⟨k1, n1, t1, clock1, border1, events1, told1⟩, ri, ro, ds) nw xs ys).2.2.1) := ⟨by
    have q := adv_Sm nw all hsi hso (s := s)
    have q2 := adv_rows s rin rout nw all
    rw [hR] at q q2
    simp only at q2
    exact feedG_Sm q.1 q.2 hxs hys (by show ri.length + _ ≤ _; omega) (by show ro.length + _ ≤ _; omega)⟩
  have HRL : Aside0 (ri.length ≤ 2097152 ∧ ro.length ≤ 2097152) := ⟨by have := adv_rows s rin rout nw all; rw [hR] at this; exact ⟨Nat.le_trans this.1 hsi.1, Nat.le_trans this.2 hso.1⟩⟩
  have HFD : Aside0 (feed s rin rout now ev xs ys all = feedR (⟨k1, n1, t1, clock1, border1, events1, told1⟩, ri, ro, ds) nw ev xs ys all) := ⟨by unfold feed; rw [hm1, hnw, hR]⟩
  clear hkp hln
  have HB := Aside0.mk h
  have HXS := Aside0.mk (And.intro hx (And.intro hxc hxs))
  have HYS := Aside0.mk (And.intro hy (And.intro hyc hys))
  have HX := Aside0.mk hX
  have hgb : w.heap.size ≠ g := Nat.ne_of_gt hlt
  clear h hx hxc hxs hy hyc hys hX hm1 hnw hmany hR
  go_enter Try.func10, Try.ntmps10
  go_upto_region 5 with (first | (go_at_call 11; (with_reducible refine (HADV.out _ (below_alloc (Below.refl _ _) _)).mono ?_); rintro e w1 ⟨v, vi1, vo1, okD, okI1, okO1, rfl, hB1, hD1, hK1, hI1, hO1, hDD1⟩; obtain ⟨A3, c3, rfl⟩ := Kd.R_slice hD1; have hbx : w1.heap[w.heap.size]? = some (.cells #[.slice A xs.length c, .slice A' ys.length c'] 31 (0, 0)) := K3.blk (by simpa using heap_alloc_new w _) hK1 hgb; have z0 : w1.cell? ⟨w.heap.size, 0, none⟩ = some (.slice A xs.length c) := (blk_cell hbx 0).trans rfl; have z1 : w1.cell? ⟨w.heap.size, 1, none⟩ = some (.slice A' ys.length c') := (blk_cell hbx 1).trans rfl; have H1 := Aside0.mk (And.intro hB1 (And.intro hD1 (And.intro hK1 (And.intro hI1 (And.intro hO1 (And.intro hDD1 hbx)))))); clear hB1 hD1 hK1 hI1 hO1 hDD1 hbx))
  go_cut [12] (fun s12 wx => ∃ bo : Nat, s12 = .pointer (some ⟨bo, 0, none⟩) ∧ Aside0 (OwnD w1 nw xs ys bo wx))
  case first =>
    obtain ⟨hB1, hD1, hK1, hI1, hO1, hDD1, hbx⟩ := H1.out
    have hxF := K3.F (Kd.F_below HXS.out.1 (below_alloc (Below.refl _ _) _)) hK1 (fun k hk e => (HX.out k hk).1 e)
    have hyF := K3.F (Kd.F_below HYS.out.1 (below_alloc (Below.refl _ _) _)) hK1 (fun k hk e => (HX.out k hk).1 e)
    have HCX := Aside0.mk (fun W (hW : Below w1.heap.size w1 W) => copied_any A c xs W (Kd.F_now (Kd.F_below hxF hW)) HXS.out.2.1 HXS.out.2.2)
    have HCY := Aside0.mk (fun W (hW : Below w1.heap.size w1 W) => copied_any A' c' ys W (Kd.F_now (Kd.F_below hyF hW)) HYS.out.2.1 HYS.out.2.2)
    clear hB1 hD1 hK1 hI1 hO1 hDD1 hbx hxF hyF H1 HADV HXS HYS HX HB
    have l1 : w.heap.size < w1.heap.size := World.block_lt_of_cell? w1 _ z0
    have l1' : w.heap.size < w1.heap.size + 1 := Nat.lt_succ_of_lt l1
    have hza : (w1.drew.alloc (.cells #[.int .i64 0, .slice none 0 0, .slice none 0 0] 43)).heap[w1.heap.size]? = some (.cells #[.int .i64 0, .slice none 0 0, .slice none 0 0] 43 (0, 0)) := by simpa using heap_alloc_new w1.drew (.cells #[.int .i64 0, .slice none 0 0, .slice none 0 0] 43)
    have q0 := blk_cell hza 0
    have q1 := blk_cell hza 1
    have q2 := blk_cell hza 2
    have q3 := blk_frozen hza 0
    have q4 := blk_frozen hza 1
    have q5 := blk_frozen hza 2
    clear hza
    have n1' := Nat.ne_of_lt l1
    have n1'' := Nat.ne_of_gt l1
    go_region_held3 (fun w' => w'.cell? ⟨w.heap.size, 0, none⟩ = some (.slice A xs.length c) ∧ w'.cell? ⟨w.heap.size, 1, none⟩ = some (.slice A' ys.length c'))
      (first | go_keep)
      (first | (go_at_call_of 27 (Value.slice A xs.length c); refine (HCX.out _ (by repeat (first | exact Below.refl _ _ | apply below_alloc | apply pw_below_drewN | apply below_drew1))).mono ?_; rintro e w2 ⟨v2, rfl, hR2, hb2⟩; obtain ⟨A4, c4, rfl⟩ := Kd.R_slice hR2; obtain ⟨bc2, bf2⟩ := bcell hb2; have bz2 := hb2.size; (try simp only [World.size_alloc, heap_drew] at bc2 bf2 bz2); have l2 : w.heap.size < w2.heap.size := Nat.lt_of_lt_of_le l1 (Nat.le_trans (by first | exact Nat.le_refl _ | exact Nat.le_succ _) bz2); have l2' : w.heap.size < w2.heap.size + 1 := Nat.lt_succ_of_lt l2; (try have m12 : w1.heap.size < w2.heap.size := bz2); have n2' := Nat.ne_of_lt l2; have n2'' := Nat.ne_of_gt l2; have HR2 := Aside0.mk hR2; have HB2 := Aside0.mk hb2; clear hR2 hb2) | (go_at_call_of 27 (Value.slice A' ys.length c'); refine (HCY.out _ (by first | exact bw1 HB2.out | exact bw2 HB2.out | exact bw3 HB2.out)).mono ?_; rintro e w3 ⟨v3, rfl, hR3, hb3⟩; obtain ⟨A5, c5, rfl⟩ := Kd.R_slice hR3; obtain ⟨bc3, bf3⟩ := bcell hb3; have bz3 := hb3.size; (try simp only [World.size_alloc, heap_drew] at bc3 bf3 bz3); have l3 : w.heap.size < w3.heap.size := Nat.lt_of_lt_of_le l2 (Nat.le_trans (by first | exact Nat.le_refl _ | exact Nat.le_succ _) bz3); have l3' : w.heap.size < w3.heap.size + 1 := Nat.lt_succ_of_lt l3; have n3' := Nat.ne_of_lt l3; have n3'' := Nat.ne_of_gt l3; have HR3 := Aside0.mk hR3; have HB3 := Aside0.mk hb3; clear hR3 hb3))
    all_goals
      go_wp2_with fail
      go_meet
      case rel =>
        first
        | exact ⟨_, rfl, ⟨own_last HB2.out HB3.out HR2.out HR3.out⟩⟩
        | exact ⟨_, rfl, ⟨own_mid HB2.out HB3.out HR2.out HR3.out⟩⟩
        | exact ⟨_, rfl, ⟨own_first HB2.out HB3.out HR2.out HR3.out⟩⟩
  case rest =>
    obtain ⟨bo, rfl, hown⟩ := hcut
    clear HADV
    obtain ⟨hB1, hD1, hK1, hI1, hO1, hDD1, hbx⟩ := H1.out
    obtain ⟨vx, vy, okN, ho, hx2, hy2, hN, hbn, hbw⟩ := hown.out
    obtain ⟨Ax, cx, rfl⟩ := Kd.R_slice hx2
    obtain ⟨Ay, cy, rfl⟩ := Kd.R_slice hy2
    have hbs := hbw.size
    have hKS := hK1.1
    have hwsz : (w.alloc (.cells #[.slice A xs.length c, .slice A' ys.length c'] 31)).heap.size = w.heap.size + 1 := by simp
    have nb : bo ≠ g := by omega
    have nb' : g ≠ bo := Ne.symm nb
    have HFX := Aside0.mk (Kd.F_below (K3.F (Kd.F_below HXS.out.1 (below_alloc (Below.refl _ _) _)) hK1 (fun k hk e => (HX.out k hk).1 e)) hbw)
    have HFY := Aside0.mk (Kd.F_below (K3.F (Kd.F_below HYS.out.1 (below_alloc (Below.refl _ _) _)) hK1 (fun k hk e => (HX.out k hk).1 e)) hbw)
    have HP := Aside0.mk (Pre.mk (w := w) (g := g) (bo := bo) (N := w1.heap.size) (okI := okI) (okO := okO) (nw := nw) (hB1.below hbw) (Kd.R_below hD1 hbw) ho hx2 hy2 (fun k hk => ⟨hI1 k hk, hB1.bI k hk⟩) (fun k hk => ⟨hO1 k hk, hB1.bO k hk⟩) (fun k hk => ⟨(hDD1 k hk).1.elim .inl (fun h' => .inr (h'.elim .inl (fun h'' => .inr (by omega)))), (hDD1 k hk).2⟩) (fun k hk => ⟨(hN k hk).1, (hN k hk).2.2⟩) hbn (((K3.refl w (fun k => k = g)).alloc (.cells #[.slice A xs.length c, .slice A' ys.length c'] 31)).then_ hK1 (fun k e => .inl e) |>.below hbw) (by omega) hbs HB.out.gI HB.out.gO hlt)
    have hbx2 : wc.heap[w.heap.size]? = some (.cells #[.slice A xs.length c, .slice A' ys.length c'] 31 (0, 0)) := (hbw.block _ (by omega)).trans hbx
    have z0' : wc.cell? ⟨w.heap.size, 0, none⟩ = some (.slice A xs.length c) := (blk_cell hbx2 0).trans rfl
    have z1' : wc.cell? ⟨w.heap.size, 1, none⟩ = some (.slice A' ys.length c') := (blk_cell hbx2 1).trans rfl
    have HBX := Aside0.mk hbx2
    clear a0 a1 a2 a3 a4 a5 a6 a7 a8 hB1 hD1 hK1 hI1 hO1 hDD1 hbx z0 z1 ho hx2 hy2 hN hbn hbw hown H1 hbx2 hwsz hbs hKS
    obtain ⟨a0, a1, a2, a3, a4, a5, a6, a7, a8⟩ := HP.out.b.at_.cells
    go_upto_block 0 with (fail)
    go_cut [11] (fun s11 wz => ∃ (A4 : Option Addr) (n4 c4 : Nat), s11 = .slice A4 n4 c4 ∧ Aside0 (FeedI w g okI okO (feedG (⟨k1, n1, t1, clock1, border1, events1, told1⟩, ri, ro, ds) nw xs ys) (.slice A4 n4 c4) wz) ∧ Aside0 (k1 ≠ 0))
    case first =>
      obtain ⟨sb, hsb⟩ : ∃ sb, decide (0 < xs.length + ys.length) = sb := ⟨_, rfl⟩
      have HSM := Aside0.mk (fun W => some_any A xs.length c A' ys.length c' sb W (by have := HXS.out.2.2.1; omega) (by have := HYS.out.2.2.1; omega) hsb)
      have HSB := Aside0.mk hsb
      clear hsb
      rcases (show k1 = 0 ∨ k1 = 2 ∨ (k1 = 1 ∨ k1 = 3 ∨ k1 = 4) by have := HKK.out; omega) with rfl | rfl | hk3
      · cases sb
        · have HE : Aside0 (feed s rin rout now ev xs ys all = (⟨0, n1, t1, clock1, border1, events1, told1⟩, ri, ro, ds)) := ⟨by rw [HFD.out]; unfold feedR; rw [if_pos rfl, if_neg (of_decide_eq_false HSB.out)]⟩
          go_wp2_with (first | (go_at_call 28; (with_reducible refine (HSM.out _).mono ?_); rintro e w4 ⟨rfl, hb⟩; have HP4 := Aside0.mk (HP.out.below hb); have o0 : w4.cell? ⟨bo, 0, none⟩ = some (.int .i64 nw) := (blk_cell HP4.out.o 0).trans rfl; have o1 : w4.cell? ⟨bo, 1, none⟩ = some (.slice Ax xs.length cx) := (blk_cell HP4.out.o 1).trans rfl; have o2 : w4.cell? ⟨bo, 2, none⟩ = some (.slice Ay ys.length cy) := (blk_cell HP4.out.o 2).trans rfl; obtain ⟨b0, b1, b2, b3, b4, b5, b6, b7, b8⟩ := HP4.out.b.at_.cells; have r8 := HP4.out.b.at_.frozen 8; clear hb))
          go_ret
          exact ⟨_, rfl, by rw [HE.out]; exact HP4.out.now⟩
        · have HE : Aside0 (feed s rin rout now ev xs ys all = (⟨0, n1, t1, clock1, border1, events1, told1⟩, ri, ro, ds ++ [⟨nw, ⟨xs, ys⟩⟩])) := ⟨by rw [HFD.out]; unfold feedR; rw [if_pos rfl, if_pos (of_decide_eq_true HSB.out)]⟩
          go_wp2_with (first | (go_at_call 28; (with_reducible refine (HSM.out _).mono ?_); rintro e w4 ⟨rfl, hb⟩; have HP4 := Aside0.mk (HP.out.below hb); have o0 : w4.cell? ⟨bo, 0, none⟩ = some (.int .i64 nw) := (blk_cell HP4.out.o 0).trans rfl; have o1 : w4.cell? ⟨bo, 1, none⟩ = some (.slice Ax xs.length cx) := (blk_cell HP4.out.o 1).trans rfl; have o2 : w4.cell? ⟨bo, 2, none⟩ = some (.slice Ay ys.length cy) := (blk_cell HP4.out.o 2).trans rfl; obtain ⟨b0, b1, b2, b3, b4, b5, b6, b7, b8⟩ := HP4.out.b.at_.cells; have r8 := HP4.out.b.at_.frozen 8; clear hb) | ((with_reducible refine gate_builtin (b := .append) (xs := #[.tmp 47, .tmp 49]) rfl ?_); at_builtin; refine Kd.R_append k43 (w0 := w4) 0 rfl (.tmp 47) (.tmp 49) 35 43 (.agg #[.int .i64 0, .slice none 0 0, .slice none 0 0]) 56 rfl Try.underlying35 info43 rfl (by decide) (by omega) (.slice A3 ds.length c3) ds (⟨nw, ⟨xs, ys⟩⟩ : S43) [.int .i64 nw, .slice Ax xs.length cx, .slice Ay ys.length cy] (fun k => okD k ∨ w1.heap.size ≤ k) okN rfl rfl ?aP ?aK ?aF ?aO ?aB ?aS ?aL ?_; (case aP => exact k43_mkM _ 0 okN ⟨nw, ⟨xs, ys⟩⟩ HP4.out.x HP4.out.y); (case aK => exact HP4.out.okp); (case aF => exact fun k hk => .inr (Nat.le_trans HP4.out.NW hk)); (case aO => exact Kd.R_mono HP4.out.d (fun _ h => .inl h)); (case aB => exact Below.refl _ _); (case aS => exact Nat.zero_le _); (case aL => exact feed_room HLN.out); intro v5 w5 ho5 hb5 hg5 hat5; obtain ⟨A5, c5, rfl⟩ := Kd.R_slice ho5; have HF5 := Aside0.mk (FeedI.len (HP4.out.app ho5 hg5)); clear ho5 hb5 hg5 hat5))
          go_ret
          exact ⟨_, rfl, by rw [HE.out]; exact HF5.out⟩
      · have HE0 : ∀ x, x = feedG (⟨2, n1, t1, clock1, border1, events1, told1⟩, ri, ro, ds) nw xs ys → x = (if 0 < xs.length + ys.length ∧ told1 = false then (⟨2, n1, t1, clock1, border1, events1, true⟩, ri, ro, ds ++ [⟨nw, ⟨xs, ys⟩⟩]) else (⟨2, n1, t1, clock1, border1, events1, told1⟩, ri, ro, ds)) := fun x hx => by rw [hx]; unfold feedG; rw [if_pos rfl]
        have HE0 := HE0 _ rfl
        cases sb
        · rw [if_neg (fun h => of_decide_eq_false HSB.out h.1)] at HE0
          have HE := Aside0.mk HE0
          clear HE0
          go_wp2_with (first | (go_at_call 28; (with_reducible refine (HSM.out _).mono ?_); rintro e w4 ⟨rfl, hb⟩; have HP4 := Aside0.mk (HP.out.below hb); have o0 : w4.cell? ⟨bo, 0, none⟩ = some (.int .i64 nw) := (blk_cell HP4.out.o 0).trans rfl; have o1 : w4.cell? ⟨bo, 1, none⟩ = some (.slice Ax xs.length cx) := (blk_cell HP4.out.o 1).trans rfl; have o2 : w4.cell? ⟨bo, 2, none⟩ = some (.slice Ay ys.length cy) := (blk_cell HP4.out.o 2).trans rfl; obtain ⟨b0, b1, b2, b3, b4, b5, b6, b7, b8⟩ := HP4.out.b.at_.cells; have r8 := HP4.out.b.at_.frozen 8; clear hb))
          go_meet
          case rel => exact ⟨_, _, _, rfl, ⟨by rw [HE.out]; exact HP4.out.now⟩, ⟨by decide⟩⟩
        · cases told1
          · rw [if_pos ⟨of_decide_eq_true HSB.out, rfl⟩] at HE0
            have HE := Aside0.mk HE0
            clear HE0
            go_wp2_with (first | (go_at_call 28; (with_reducible refine (HSM.out _).mono ?_); rintro e w4 ⟨rfl, hb⟩; have HP4 := Aside0.mk (HP.out.below hb); have o0 : w4.cell? ⟨bo, 0, none⟩ = some (.int .i64 nw) := (blk_cell HP4.out.o 0).trans rfl; have o1 : w4.cell? ⟨bo, 1, none⟩ = some (.slice Ax xs.length cx) := (blk_cell HP4.out.o 1).trans rfl; have o2 : w4.cell? ⟨bo, 2, none⟩ = some (.slice Ay ys.length cy) := (blk_cell HP4.out.o 2).trans rfl; obtain ⟨b0, b1, b2, b3, b4, b5, b6, b7, b8⟩ := HP4.out.b.at_.cells; have r8 := HP4.out.b.at_.frozen 8; clear hb) | ((with_reducible refine gate_builtin (b := .append) (xs := #[.tmp 66, .tmp 68]) rfl ?_); at_builtin; refine Kd.R_append k43 (w0 := w4.setCell ⟨g, 8, none⟩ (.bool true)) 0 rfl (.tmp 66) (.tmp 68) 35 43 (.agg #[.int .i64 0, .slice none 0 0, .slice none 0 0]) 56 rfl Try.underlying35 info43 rfl (by decide) (by omega) (.slice A3 ds.length c3) ds (⟨nw, ⟨xs, ys⟩⟩ : S43) [.int .i64 nw, .slice Ax xs.length cx, .slice Ay ys.length cy] (fun k => okD k ∨ w1.heap.size ≤ k) okN rfl (by rw [setCell_size]; rfl) ?aP ?aK ?aF ?aO ?aB ?aS ?aL ?_; (case aP => exact k43_mkM _ 0 okN ⟨nw, ⟨xs, ys⟩⟩ HP4.out.told.x HP4.out.told.y); (case aK => exact HP4.out.told.okp); (case aF => exact fun k hk => .inr (Nat.le_trans HP4.out.told.NW hk)); (case aO => exact Kd.R_mono HP4.out.told.d (fun _ h => .inl h)); (case aB => exact Below.refl _ _); (case aS => exact Nat.zero_le _); (case aL => exact feed_room HLN.out); intro v5 w5 ho5 hb5 hg5 hat5; obtain ⟨A5, c5, rfl⟩ := Kd.R_slice ho5; have HF5 := Aside0.mk (FeedI.len (HP4.out.told.app ho5 hg5)); clear ho5 hb5 hg5 hat5))
            go_meet
            case rel => exact ⟨_, _, _, rfl, ⟨by rw [HE.out]; exact HF5.out⟩, ⟨by decide⟩⟩
          · rw [if_neg (fun h => by cases h.2)] at HE0
            have HE := Aside0.mk HE0
            clear HE0
            go_wp2_with (first | (go_at_call 28; (with_reducible refine (HSM.out _).mono ?_); rintro e w4 ⟨rfl, hb⟩; have HP4 := Aside0.mk (HP.out.below hb); have o0 : w4.cell? ⟨bo, 0, none⟩ = some (.int .i64 nw) := (blk_cell HP4.out.o 0).trans rfl; have o1 : w4.cell? ⟨bo, 1, none⟩ = some (.slice Ax xs.length cx) := (blk_cell HP4.out.o 1).trans rfl; have o2 : w4.cell? ⟨bo, 2, none⟩ = some (.slice Ay ys.length cy) := (blk_cell HP4.out.o 2).trans rfl; obtain ⟨b0, b1, b2, b3, b4, b5, b6, b7, b8⟩ := HP4.out.b.at_.cells; have r8 := HP4.out.b.at_.frozen 8; clear hb))
            go_meet
            case rel => exact ⟨_, _, _, rfl, ⟨by rw [HE.out]; exact HP4.out.now⟩, ⟨by decide⟩⟩
      · have hk134 : k1 = 1 ∨ k1 = 3 ∨ k1 = 4 := by omega
        have nk0 : k1 ≠ 0 := by omega
        have nk2 : k1 ≠ 2 := by omega
        have e0 : (k1 == 0) = false := by simpa using nk0
        have e2' : (k1 == 2) = false := by simpa using nk2
        have HE : Aside0 (feedG (⟨k1, n1, t1, clock1, border1, events1, told1⟩, ri, ro, ds) nw xs ys = (⟨k1, n1, t1, clock1, border1, events1, told1⟩, gatD k1 ri xs, gatD k1 ro ys, ds)) := ⟨by unfold feedG; rw [if_neg nk2]⟩
        have NK0 := Aside0.mk nk0
        have HGA := Aside0.mk (gather_any g ⟨k1, n1, t1, clock1, border1, events1, told1⟩ vi1 vo1 ri ro okI1 okO1 A c xs A' c' ys okX wc hk134 HP.out.b (HFX.out) HXS.out.2.1 HXS.out.2.2 HFY.out HYS.out.2.1 HYS.out.2.2 (fun k hk => ⟨(HX.out k hk).1, fun h' => (HX.out k hk).2.1 (HP.out.kI k h').1, fun h' => (HX.out k hk).2.2 (HP.out.kO k h').1⟩) HRL.out.1 HRL.out.2)
        clear nk0 nk2 hk134
        go_wp2_with (first | (go_at_call 29; (with_reducible refine HGA.out.mono ?_); rintro e w5 ⟨rfl, hG5⟩; have HG5 := Aside0.mk (HP.out.gat hG5); clear hG5))
        go_meet
        case rel => exact ⟨_, _, _, rfl, ⟨by rw [HE.out]; exact HG5.out⟩, ⟨NK0.out⟩⟩
    case rest =>
      obtain ⟨A4, n4, c4, rfl, HF, HK0⟩ := hcut
      have HFS : Aside0 (feed s rin rout now ev xs ys all = feedE (feedG (⟨k1, n1, t1, clock1, border1, events1, told1⟩, ri, ro, ds) nw xs ys) nw ev all) := ⟨by rw [HFD.out]; unfold feedR; rw [if_neg HK0.out]⟩
      have hgk := feedG_keeps (⟨k1, n1, t1, clock1, border1, events1, told1⟩, ri, ro, ds) nw xs ys
      obtain ⟨⟨⟨k2, n2, t2, clock2, border2, events2, told2⟩, ri2, ro2, ds2⟩, hS⟩ : ∃ S, feedG (⟨k1, n1, t1, clock1, border1, events1, told1⟩, ri, ro, ds) nw xs ys = S := ⟨_, rfl⟩
      rw [hS] at hgk HF HFS HSM2
      simp only at hgk
      obtain ⟨rfl, rfl, rfl, rfl, hl2⟩ := hgk
      have HL2 := Aside0.mk (show ds2.length ≤ 4003 by have := HLN.out; omega)
      have hF := HF.out
      obtain ⟨vi2, vo2, okI2, okO2, okD2, hB2, hR2, hK2, hI2, hO2, hD2⟩ := hF
      obtain rfl : n4 = ds2.length := (Kd.R_reads' hR2).1
      clear a0 a1 a2 a3 a4 a5 a6 a7 a8 z0' z1' HP HFX HFY HBX hS hl2 HFD HRL nb nb'
      obtain ⟨a0, a1, a2, a3, a4, a5, a6, a7, a8⟩ := hB2.at_.cells
      have f5 := hB2.at_.frozen 5
      have HB2 := Aside0.mk hB2
      have HRK := Aside0.mk (And.intro hR2 (And.intro hK2 (And.intro hI2 (And.intro hO2 hD2))))
      clear hB2 hR2 hK2 hI2 hO2 hD2
      cases t2
      · have hev := HEV.out
        have hlt' := Aside0.mk (And.intro hlt (And.intro HB.out.gI HB.out.gO))
        obtain ⟨m3, hm3⟩ : ∃ m3, mx ev 0 = m3 := ⟨_, rfl⟩
        obtain ⟨m4, hm4⟩ : ∃ m4, mn m3 late = m4 := ⟨_, rfl⟩
        obtain ⟨m5, hm5⟩ : ∃ m5, mn (events2 + m4) late = m5 := ⟨_, rfl⟩
        have x3 : (if ev < 0 then 0 else ev) = m3 := hm3
        have x4 : (if 1152921504606846976 < m3 then 1152921504606846976 else m3) = m4 := hm4
        have x5 : (if 1152921504606846976 < events2 + m4 then 1152921504606846976 else events2 + m4) = m5 := hm5
        have b3 : 0 ≤ m3 := by rw [← x3]; split <;> omega
        have b4 : 0 ≤ m4 ∧ m4 ≤ 1152921504606846976 := by rw [← x4]; split <;> omega
        have HE0 : Aside0 (feedE (⟨k2, n2, false, clock2, border2, events2, told2⟩, ri2, ro2, ds2) nw ev all = if n2 ≤ m5 then (⟨k2, n2, false, clock2, border2, 0, false⟩, [], [], ds2 ++ endD k2 nw ri2 ro2 all) else (⟨k2, n2, false, clock2, border2, m5, told2⟩, ri2, ro2, ds2)) := ⟨by unfold feedE; rw [if_neg (show ¬ (false = true) by decide), hm3, hm4, hm5]⟩
        clear hm3 hm4 hm5
        by_cases hge : n2 ≤ m5
        · have HE : Aside0 (feed s rin rout now ev xs ys all = (⟨k2, n2, false, clock2, border2, 0, false⟩, [], [], ds2 ++ endD k2 nw ri2 ro2 all)) := ⟨by rw [HFS.out, HE0.out, if_pos hge]⟩
          have d5 : decide (n2 ≤ m5) = true := decide_eq_true hge
          obtain ⟨vi3, vo3, okI3, okO3, okD3, hB3, hR3, hK3, hI3, hO3, hD3⟩ := FeedI.events HF.out hlt'.out.1 hlt'.out.2.1 hlt'.out.2.2 m5
          have hal := K3.F ha hK3 (fun k hk e => e.elim (HX.out k hk).1 (fun e => e.elim (HX.out k hk).2.1 (HX.out k hk).2.2))
          have HEND := Aside0.mk (fun W (hW : Below (wc.setCell ⟨g, 5, none⟩ (.int .i64 m5)).heap.size (wc.setCell ⟨g, 5, none⟩ (.int .i64 m5)) W) => end_any g ⟨k2, n2, false, clock2, border2, m5, told2⟩ nw vi3 vo3 ri2 ro2 (fun k => okI3 k ∨ okO3 k) A2 c2 all W (by have h1 := HKK.out; have h2 := HK0.out; show k2 = 1 ∨ k2 = 2 ∨ k2 = 3 ∨ k2 = 4; omega) (hB3.at_.below hW) (Kd.R_mono (Kd.R_below hB3.hi hW) (fun _ h => .inl h)) (Kd.R_mono (Kd.R_below hB3.ho hW) (fun _ h => .inr h)) (fun h => h.elim hB3.gI hB3.gO) HSM2.out.1 HSM2.out.2 (Kd.F_now (Kd.F_below hal hW)) hac has)
          have HNE : Aside0 (some g ≠ (Value.slice A4 ds2.length c4).ownBlock) := ⟨fun e => by
            have h9 := (hD3 g (hR3.1 g e.symm)).1
            exact h9.elim hlt'.out.2.1 (fun h => h.elim hlt'.out.2.2 (fun h => by have := hlt'.out.1; omega))⟩
          have NG3 : Aside0 (∀ k, okD3 k → ¬ k = g) := ⟨fun k hk e => by
            have h9 := (hD3 k hk).1
            subst e
            exact h9.elim hlt'.out.2.1 (fun h => h.elim hlt'.out.2.2 (fun h => by have := hlt'.out.1; omega))⟩
          have H3 := Aside0.mk (And.intro hB3 (And.intro hR3 (And.intro hK3 (And.intro hI3 (And.intro hO3 hD3)))))
          clear hge hB3 hR3 hK3 hI3 hO3 hD3 hal
          go_wp2
          go_quiet (fail)
          go_wp2_with (first | (go_at_call 30; (with_reducible refine (HEND.out _ (pw_below_drewN (Below.refl _ _) _)).mono ?_); rintro e w6 ⟨v6, rfl, ⟨A6, c6, rfl, hl6, hr6⟩, hT6, hK6⟩; have HR6 := Aside0.mk hr6; have HT6 := Aside0.mk hT6; have HK6 := Aside0.mk hK6; clear hr6 hT6 hK6 hl6) | ((with_reducible refine gate_builtin (b := .append) (xs := #[.tmp 98, .tmp 102]) rfl ?_); at_builtin; refine Kd.R_append_rows k43 (w0 := w6) 0 rfl (.tmp 98) (.tmp 102) 35 43 (.agg #[.int .i64 0, .slice none 0 0, .slice none 0 0]) 56 rfl Try.underlying35 info43 rfl (by decide) (by omega) (.slice A4 ds2.length c4) ds2 (endD k2 nw ri2 ro2 all) _ _ _ (fun k => okD3 k ∨ (okI3 k ∨ okO3 k) ∨ (wc.setCell ⟨g, 5, none⟩ (.int .i64 m5)).heap.size ≤ k) (fun k => (okI3 k ∨ okO3 k) ∨ (wc.setCell ⟨g, 5, none⟩ (.int .i64 m5)).heap.size ≤ k) rfl rfl ?aO ?aR (fun _ _ h => h) ?aK ?aF ?aB ?aS ?aL ?_; (case aO => exact Kd.R_mono (K3.R (Kd.R_below H3.out.2.1 (pw_below_drewN (Below.refl _ _) _)) HK6.out NG3.out) (fun _ h => .inl h)); (case aR => exact HR6.out); (case aK => exact fun k hk => ⟨.inr hk, fun e => feed_ne H3.out.2.1 H3.out.2.2.2.2.2 k hk e⟩); (case aF => exact fun k hk => .inr (.inr (Nat.le_trans HK6.out.1 hk))); (case aB => exact Below.refl _ _); (case aS => exact Nat.zero_le _); (case aL => exact feed_room2 HL2.out (endD_le k2 nw ri2 ro2 all)); intro v7 w7 ho7 hb7 hg7 hat7; obtain ⟨A7, c7, rfl⟩ := Kd.R_slice ho7; have q5 := (loop_at3 HT6.out hg7 HNE.out).frozen 5; obtain ⟨y0, y1, y2, y3, y4, y5, y6, y7, y8⟩ := (loop_at3 HT6.out hg7 HNE.out).cells; have HF7 := Aside0.mk (feed_end hlt'.out.1 hlt'.out.2.1 hlt'.out.2.2 (H3.out.1.below (pw_below_drewN (Below.refl _ _) _)) (Kd.R_below H3.out.2.1 (pw_below_drewN (Below.refl _ _) _)) (H3.out.2.2.1.drewN _) H3.out.2.2.2.1 H3.out.2.2.2.2.1 H3.out.2.2.2.2.2 HT6.out HK6.out ho7 hg7 0); clear ho7 hb7 hg7 hat7))
          go_ret
          exact ⟨_, rfl, by rw [HE.out]; exact FeedI.len2 HF7.out⟩
        · have HE : Aside0 (feed s rin rout now ev xs ys all = (⟨k2, n2, false, clock2, border2, m5, told2⟩, ri2, ro2, ds2)) := ⟨by rw [HFS.out, HE0.out, if_neg hge]⟩
          have d5 : decide (n2 ≤ m5) = false := decide_eq_false hge
          clear hge
          go_wp2
          go_quiet (fail)
          go_wp2
          go_ret
          exact ⟨_, rfl, by rw [HE.out]; exact (FeedI.events HF.out hlt'.out.1 hlt'.out.2.1 hlt'.out.2.2 m5).below (pw_below_drewN (Below.refl _ _) _)⟩
      · have HE : Aside0 (feed s rin rout now ev xs ys all = (⟨k2, n2, true, clock2, border2, events2, told2⟩, ri2, ro2, ds2)) := ⟨by rw [HFS.out]; unfold feedE; rw [if_pos rfl]⟩
        go_wp2
        go_ret
        exact ⟨_, rfl, by rw [HE.out]; exact HF.out⟩
end Go.Proofs.Yteklabhmmfklbaa
