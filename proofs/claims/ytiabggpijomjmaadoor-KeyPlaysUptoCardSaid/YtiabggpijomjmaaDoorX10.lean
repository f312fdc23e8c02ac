import Derived.Test.YtiabggpijomjmaaDoorXB
import Derived.Test.YtiabggpijomjmaaDoorMA
namespace Go.Proofs.YtiabggpijomjmaaDoor
open Go.RowKit Print Go.Proofs.YtiabggpijomjmaaDoorW.PrintWords Go.Proofs.YtiabggpijomjmaaDoorW.PrintLast Go.Proofs.YtiabggpijomjmaaDoorW.PrintMore
set_option linter.unusedVariables false
theorem xm_new {w : World} {L : List Asr} (h : Apart w L) : Apart (w.alloc (.cells #[.slice none 0 0] 42)) (Xm w.heap.size [] :: L) :=
  Sep.new (F := fun k => k = w.heap.size ∨ False) h (below_alloc (Below.refl _ _) _) ⟨fun _ => False, .slice none 0 0, ⟨heap_alloc_new _ _, Kd.N_nil _ _ _ _ _, id, fun _ h => h.elim⟩, fun _ => Iff.rfl⟩ (fun k hk => hk.elim (fun e => Nat.le_of_eq e.symm) False.elim)
theorem Calls.drewn {f : Nat} {args : Array Value} {w : World} {Q : Ending → World → Prop} (h : Calls Tryd.prog f args w.drew Q) : Calls Tryd.prog f args w.drew Q := h
theorem row6 {w : World} {A : Option Addr} {m c : Nat} {ll : List (List S53)} {L : List Asr} (h : Apart w (Rw (.slice A m c) ll :: L)) : kS.C w A m ll ∧ m ≤ c := by
  obtain ⟨F, hR, _⟩ := Sep.out h
  obtain ⟨rfl, hc, hC⟩ := Kd.R_reads' hR.1
  exact ⟨hC, hc⟩
theorem len_b {w : World} {g n : Nat} {X : Xp} {L : List Asr} (h : Apart w (Mm g n (X.map pr) :: L)) : Calls Tryd.prog 21 #[.pointer (some ⟨g, 0, none⟩)] w fun e w' => e = .returned (.int .i64 X.length) ∧ Below w.heap.size w w' := by
  obtain ⟨F, ⟨b, okS, v, nx, D, hB, hF⟩, _, _⟩ := h
  have := len_any w hB
  rw [List.length_map] at this
  exact this
theorem xrows_b {w : World} {gx : Nat} {X : Xp} {L : List Asr} (h : Apart w (Xm gx X :: L)) (hl : X.length ≤ 1099511627776) :
    Calls Tryd.prog 23 #[.pointer (some ⟨gx, 0, none⟩)] w fun e w' => ∃ A c, e = .returned (.slice A X.length c) ∧ (X.length ≤ c ∧ kS.C w' A X.length (X.map (·.f0))) ∧ Below w.heap.size w w' := by
  obtain ⟨F, ⟨okX, v, hB, hF⟩, _, hl'⟩ := Sep.out h
  exact (xrows_any w hB hl).mono fun e w' ⟨A, c, he, h1, h2, hb⟩ => ⟨A, c, he, ⟨h1, h2⟩, hb⟩
theorem same_b {w : World} {A A' : Option Addr} {m c c' : Nat} {ll : List (List S53)} (hm : ll.length = m ) (hC : kS.C w A m ll) (hc : m ≤ c) (hC' : kS.C w A' m ll) (hc' : m ≤ c') (hl : m ≤ 1099511627776) (hr : ∀ x ∈ ll, x.length ≤ 1099511627776) :
    Calls Tryd.prog 22 #[.slice A m c, .slice A' m c'] w fun e w' => e = .returned (.bool true) ∧ Below w.heap.size w w' := by
  subst hm
  obtain ⟨K, hK⟩ := same_ev ll hl hr
  exact (marqueelaw04_same.calls K A c ll A' c' ll true w hC hc hC' hc' (hK K (Nat.le_refl _))).mono fun e w' ⟨he, hd⟩ => ⟨he, hd.below⟩
/-- What a script's step may be. -/
def OpOk (x : S44) : Prop := RI x.f2 ∧ n64 x.f1
theorem op_ok {l : List S44} (h : ∀ x ∈ l, OpOk x) {i : Nat} (hi : i < l.length) : OpOk (rd_T44 l i) := by
  refine h _ ?_
  unfold rd_T44
  rw [Int.toNat_natCast, List.getD_eq_getElem?_getD, List.getElem?_eq_getElem hi]
  exact List.getElem_mem hi
set_option maxHeartbeats 8000000 in
set_option maxRecDepth 100000 in
theorem plays_any (A : Option Addr) (c : Nat) (l : List S44) (w : World) (hld : LaidW w) (hC : k44.C w A l.length l) (hc : l.length ≤ c) (hl : l.length ≤ 1048576) (ho : ∀ x ∈ l, OpOk x) :
    Calls Tryd.prog 4 #[.slice A l.length c] w fun e w' => e = .returned (.bool true) ∧ Below w.heap.size w w' := by
  have hu42 := Tryd.underlying42
  have hu44 := Tryd.underlying44
  have hu53 := Tryd.underlying53
  have HLD := Aside0.mk hld
  have HC := Aside0.mk hC
  have HL := Aside0.mk hl
  have HO := Aside0.mk ho
  have HS0 := Aside0.mk (Sep.begin w)
  clear hld hC hl ho
  go_enter Tryd.func4, Tryd.ntmps4
  go_upto_region 4 with (first
    | (go_at_call 13; refine (new_sep HS0.out (Below.refl _ _)).mono ?_; rintro e w1 ⟨g, rfl, hq⟩; have HS1 := Aside0.mk (xm_new hq); clear hq))
  generalize hgx : w1.heap.size = gx at *
  generalize w1.alloc (.cells #[.slice none 0 0] 42) = w2 at *
  go_wp2_with fail
  go_loopg [5] (l.length + 1) (fun kq v5 w' => ∃ i : Nat, v5 = .int .i64 i ∧ Aside0 (kq + i = l.length + 1) ∧ Aside0 (i ≤ l.length) ∧ ∃ X : Xp, Aside0 (VX X ∧ X.length ≤ i) ∧ Aside0 (Apart w' [Mm g i (X.map pr), Xm gx X, Old w]))
  case atStart => exact ⟨0, by simp, ⟨by omega⟩, ⟨Nat.zero_le _⟩, [], ⟨VX.nil, Nat.le_refl _⟩, ⟨HS1.out.swap⟩⟩
  case round =>
    obtain ⟨i, rfl, HK, HI, X, HX, HS⟩ := hrel
    by_cases hlt : i < l.length
    · obtain ⟨k1, rfl⟩ : ∃ k1, gk = k1 + 1 := ⟨gk - 1, by have := HK.out; omega⟩
      have hj0 : (0 : Int) ≤ (i : Int) := by omega
      have hj1 : (i : Int) < (l.length : Int) := by omega
      have hjd : decide ((i : Int) < (l.length : Int)) = true := decide_eq_true hj1
      obtain ⟨hri, hn1⟩ := op_ok HO.out hlt
      obtain ⟨ad, A0, c0, rfl, x0, x1, x2, hl0, hC0⟩ := at_T44 HC.out i hlt
      obtain ⟨op, hop⟩ : ∃ op, rd_T44 l i = op := ⟨_, rfl⟩
      rw [hop] at hri hn1 x0 x1 x2 hl0 hC0
      obtain ⟨m, hm⟩ : ∃ m, op.f2.length = m := ⟨_, rfl⟩
      rw [hm] at x2 hl0 hC0
      have HM := Aside0.mk hm
      have HY := Aside0.mk (fun (W : World) (hb : Below w.heap.size w W) => And.intro (pw_cell_below hb x0) (And.intro (pw_cell_below hb x1) (pw_cell_below hb x2)))
      have HRD := Aside0.mk (fun (W : World) (X : Xp) (hb : Below w.heap.size w W) => (⟨Kd.C_below hC0 hb, hm, hl0⟩ : SameA W X A0 m c0 op.f2))
      obtain ⟨y0, y1, y2⟩ := HY.out _ (old_below HS.out (by simp))
      clear hop x0 x1 x2 hC0 hl0 hm
      have HRI := Aside0.mk hri
      have HN1 := Aside0.mk hn1
      have HXL : Aside0 (X.length ≤ 1099511627776 ∧ i ≤ 1099511627776) := ⟨by have := HX.out.2; have := HL.out; omega, by have := HL.out; omega⟩
      clear hri hn1
      go_upto_block 2 with (first
        | (go_at_call 6; refine (twinS HS.out (HRD.out _ X (old_below HS.out (by simp))).1 HM.out (HRD.out _ X (old_below HS.out (by simp))).2.2 HRI.out).mono ?_; rintro e w3 ⟨A3, c3, rfl, hq⟩; have HS3 := Aside0.mk hq; obtain ⟨z0, z1, z2⟩ := HY.out _ (old_below hq (by simp)); clear hq))
      clear y0 y1 y2 HS
      go_cut [7, 8, 9, 10, 40] (fun v7 v8 v9 v10 v40 wx => ∃ X' : Xp, Aside0 (VX X' ∧ X'.length ≤ i + 1) ∧ Aside0 (Apart wx [Rv (.slice A3 m c3) op.f2, Mm g (i + 1) (X'.map pr), Xm gx X', Old w]))
      case first =>
        by_cases k0 : op.f0 = 0
        · have k0b : (op.f0 == 0) = true := by rw [k0]; rfl
          have HADD := Aside0.mk (And.intro (addX_vx HX.out.1 HRI.out (n := op.f1)) (addX_len X op.f2 op.f1))
          have hka := kadd op.f1 HS3.out (by simp) HLD.out HX.out.1 HRI.out HN1.out HXL.out.1 HXL.out.2
          have HXA := Aside0.mk (fun (W : World) (L : List Asr) (h : Apart W (Xm gx X :: L)) (hm : Below w.heap.size w W) => xadd op.f1 h (HRD.out W X hm) HX.out.1 HRI.out HN1.out HXL.out.1)
          obtain ⟨R, hR⟩ : ∃ R, addX X op.f2 op.f1 = R := ⟨_, rfl⟩
          rw [hR] at hka HADD HXA
          obtain ⟨ra, rb, X1⟩ := R
          dsimp only at hka HADD HXA
          have HKA := Aside0.mk hka
          clear hka hR
          go_upto_region 11 with (first
            | (go_at_call 14; refine HKA.out.mono ?_; rintro e w4 ⟨rfl, hq⟩; have HS4 := Aside0.mk (Sep.pick 2 hq); obtain ⟨z3, z4, z5⟩ := HY.out _ (old_below hq (by simp)); clear hq))
          go_region_held3 (fun w' => w'.cell? ⟨(ad.add (i * 3)).block, (ad.add (i * 3)).off + 1, none⟩ = some (.int .i64 op.f1) ∧ w'.cell? ⟨(ad.add (i * 3)).block, (ad.add (i * 3)).off + 2, none⟩ = some (.slice A0 m c0)) (first | go_keep)
            (first | (go_at_call 15; refine (HXA.out _ _ (HS4.out.onto (below_drew1 (Below.refl _ _))) (old_below (HS4.out.onto (below_drew1 (Below.refl _ _))) (show Old w ∈ _ by simp [pick]))).mono ?_; rintro e w5 ⟨rfl, hq⟩; have HS5 := Aside0.mk (Sep.pick 2 (Sep.pick 2 hq)); obtain ⟨z6, z7, z8⟩ := HY.out _ (old_below hq (by simp)); clear hq))
          go_wp2_with fail
          go_meet
          case rel => exact ⟨X1, ⟨HADD.out.1, by have := HADD.out.2; have := HX.out.2; omega⟩, ⟨HS5.out⟩⟩
        · have k0b : (op.f0 == 0) = false := beq_eq_false_iff_ne.2 k0
          by_cases k1 : op.f0 = 1
          · have k1b : (op.f0 == 1) = true := by rw [k1]; rfl
            have HKR := Aside0.mk (kremove (HS3.out.onto (below_drew1 (Below.refl _ _))) (by simp) HLD.out HX.out.1 HRI.out HXL.out.1)
            have HXR := Aside0.mk (fun (W : World) (L : List Asr) (h : Apart W (Xm gx X :: L)) (hm : Below w.heap.size w W) => xremove h (HRD.out W X hm) HXL.out.1)
            have HXV := Aside0.mk (And.intro (HX.out.1.rem op.f2) ((xrem_sub X op.f2).length_le))
            obtain ⟨X1, hX1⟩ : ∃ X1, xrem X op.f2 = X1 := ⟨_, rfl⟩
            obtain ⟨rb, hrb⟩ : ∃ rb, (xidx X op.f2).isSome = rb := ⟨_, rfl⟩
            rw [hX1, hrb] at HKR
            rw [hX1] at HXV
            have HXR := Aside0.mk (fun (W : World) (L : List Asr) (h : Apart W (Xm gx X :: L)) (hm : Below w.heap.size w W) => by have := HXR.out W L h hm; rw [hX1, hrb] at this; exact this)
            clear hX1 hrb
            go_upto_region 15 with fail
            go_region_held3 (fun w' => w'.cell? ⟨(ad.add (i * 3)).block, (ad.add (i * 3)).off + 2, none⟩ = some (.slice A0 m c0)) (first | go_keep)
              (first
                | (go_at_call 16; refine (Calls.drewn HKR.out).mono ?_; rintro e w4 ⟨rfl, hq⟩; have HS4 := Aside0.mk (Sep.pick 2 hq); obtain ⟨z3, z4, z5⟩ := HY.out _ (old_below hq (by simp)); clear hq)
                | (go_at_call 17; refine (HXR.out _ _ HS4.out (old_below HS4.out (show Old w ∈ _ by simp [pick]))).mono ?_; rintro e w5 ⟨rfl, hq⟩; have HS5 := Aside0.mk (Sep.pick 2 (Sep.pick 2 hq)); obtain ⟨z6, z7, z8⟩ := HY.out _ (old_below hq (by simp)); clear hq))
            go_wp2_with fail
            go_meet
            case rel => exact ⟨X1, ⟨HXV.out.1, by have := HXV.out.2; have := HX.out.2; omega⟩, ⟨Sep.swap (Mm.up (Sep.swap HS5.out))⟩⟩
          · have k1b : (op.f0 == 1) = false := beq_eq_false_iff_ne.2 k1
            go_wp2_with fail
            go_meet
            case rel => exact ⟨X, ⟨HX.out.1, by have := HX.out.2; omega⟩, ⟨Sep.swap (Mm.up (Sep.swap HS3.out))⟩⟩
      case rest =>
        clear z0 z1 z2 HS3
        obtain ⟨X1, HX1, HS3⟩ := hcut
        have HXL1 : Aside0 (X1.length ≤ 1099511627776) := ⟨by have := HX1.out.2; have := HL.out; omega⟩
        obtain ⟨z0, z1, z2⟩ := HY.out _ (old_below HS3.out (show Old w ∈ _ by simp))
        go_upto_region 19 with (first
          | (go_at_call 18; refine (kget HS3.out (by simp) HLD.out HX1.out.1 HRI.out).mono ?_; rintro e w4 ⟨rfl, hq⟩; have HS4 := Aside0.mk (Sep.pick 2 hq); obtain ⟨z3, z4, z5⟩ := HY.out _ (old_below hq (by simp)); clear hq)
          | (go_at_call 19; refine (xget HS4.out (HRD.out _ X1 (old_below HS4.out (show Old w ∈ _ by simp [pick]))) HXL1.out).mono ?_; rintro e w5 ⟨rfl, hq⟩; have HS5 := Aside0.mk (Sep.pick 2 (Sep.pick 2 hq)); clear hq))
        have hwv := rv_wv HS5.out
        rw [HM.out] at hwv
        have HWV : Aside0 (Apart w5 [Wv (.slice A3 m c3) m, Mm g (i + 1) (X1.map pr), Xm gx X1, Old w]) := ⟨hwv⟩
        have HMS : Aside0 (m ≤ 1048576) := ⟨by have := (enc_small HRI.out).1; rw [HM.out] at this; exact this⟩
        clear hwv HS5 HS4 HS3 z0 z1 z2 z3 z4 z5
        obtain ⟨nv, hnv⟩ : ∃ nv, xval X1 op.f2 = nv := ⟨_, rfl⟩
        obtain ⟨nb, hnb⟩ : ∃ nb, (xidx X1 op.f2).isSome = nb := ⟨_, rfl⟩
        rw [hnv, hnb]
        clear hnv hnb
        go_wp2_with fail
        go_loopg [15] (m + 1) (fun kq v15 w' => ∃ j : Nat, v15 = .int .i64 j ∧ Aside0 (kq + j = m + 1) ∧ Aside0 (j ≤ m) ∧ Aside0 (Apart w' [Wv (.slice A3 m c3) m, Mm g (i + 1) (X1.map pr), Xm gx X1, Old w]))
        case atStart => exact ⟨0, by simp, ⟨by omega⟩, ⟨Nat.zero_le _⟩, ⟨HWV.out⟩⟩
        case round =>
          clear HWV
          obtain ⟨j, rfl, HKJ, HJ, HW⟩ := hrel
          by_cases hjm : j < m
          · obtain ⟨k2, rfl⟩ : ∃ k2, gk = k2 + 1 := ⟨gk - 1, by have := HKJ.out; omega⟩
            have p0 : (0 : Int) ≤ (j : Int) := by omega
            have p1 : (j : Int) < (m : Int) := by omega
            have pd : decide ((j : Int) < (m : Int)) = true := decide_eq_true p1
            obtain ⟨g3, rfl, T, _⟩ := wv_at HW.out j hjm
            obtain ⟨q0, t0⟩ := T.x
            obtain ⟨q1, t1⟩ := T.y
            obtain ⟨q2, t2⟩ := T.z
            have f0 := T.fx
            have f1 := T.fy
            have f2 := T.fz
            have HWN := Aside0.mk (show wrap64 ((j : Int) + 1) = ((j + 1 : Nat) : Int) from wrap_nat (by have := HMS.out; omega))
            clear T
            go_wp2_with fail
            go_roundg k2
            case measure => omega
            case rel => exact ⟨j + 1, by rw [HWN.out], ⟨by have := HKJ.out; omega⟩, ⟨by omega⟩, ⟨wv_set (wv_set (wv_set HW.out (by omega) rfl _ _) (by omega) rfl _ _) (by omega) rfl _ _⟩⟩
          · have hje : j = m := by have := HJ.out; omega
            have pd : decide ((j : Int) < (m : Int)) = false := decide_eq_false (by omega)
            go_upto_region 24 with (first
              | (go_at_call 20; refine (krows HW.out.tail (by simp) HLD.out HX1.out.1 HXL1.out).mono ?_; rintro e w6 ⟨A6, c6, rfl, hq⟩; have HS6 := Aside0.mk hq; clear hq))
            have HL6 : Aside0 ((X1.map (·.f0)).length = X1.length ∧ (∀ x ∈ X1.map (·.f0), x.length ≤ 1099511627776)) := ⟨List.length_map .., fun x hx => by
              obtain ⟨e, he, rfl⟩ := List.mem_map.1 hx
              have := (enc_small (HX1.out.1.ri e he)).1
              omega⟩
            have hR6 := row6 HS6.out
            obtain ⟨Ax, cx, hx6⟩ := xlen (Sep.pick 2 HS6.out)
            have HR6 := Aside0.mk hR6
            have hlm : (X1.map pr).length = X1.length := List.length_map ..
            have HKL := Aside0.mk (fun (W : World) (hb : Below w6.heap.size w6 W) => len_b (Sep.pick 1 (HS6.out.onto hb)))
            have HKX := Aside0.mk (fun (W : World) (hb : Below w6.heap.size w6 W) => xrows_b (Sep.pick 2 (HS6.out.onto hb)) HXL1.out)
            clear hR6 HW hlm
            go_region_held3 (fun w' => w'.cell? ⟨gx, 0, none⟩ = some (.slice Ax X1.length cx)) (first | go_keep)
              (first
              | (go_at_call 21; refine (HKL.out _ (by repeat (first | exact Below.refl _ _ | apply below_drew1))).mono ?_; rintro e w7 ⟨rfl, hb⟩; have HB7 := Aside0.mk (below_step (below_drew1 (Below.refl w6.heap.size w6)) hb); have hx7 := pw_cell_below HB7.out hx6; clear hb)
              | (go_at_call 23; refine (HKX.out _ HB7.out).mono ?_; rintro e w8 ⟨A8, c8, rfl, hr8, hb⟩; have HB8 := Aside0.mk (below_step HB7.out hb); have HR8 := Aside0.mk hr8; have hx8 := pw_cell_below HB8.out hx6; clear hb hr8)
              | (go_at_call 22; refine (same_b HL6.out.1 (Kd.C_below HR6.out.1 HB8.out) HR6.out.2 HR8.out.2 HR8.out.1 HXL1.out HL6.out.2).mono ?_; rintro e w9 ⟨rfl, hb⟩; have HB9 := Aside0.mk (below_step HB8.out hb); have hx9 := pw_cell_below HB9.out hx6; clear hb))
            have hw9 := rw_wvs (HS6.out.onto HB9.out)
            obtain ⟨ns, hns⟩ : ∃ ns, (X1.map (·.f0)).map List.length = ns := ⟨_, rfl⟩
            rw [hns] at hw9
            have HNS : Aside0 (ns.length = X1.length ∧ ∀ n ∈ ns, n ≤ 1099511627776) := ⟨by rw [← hns, List.length_map, List.length_map], fun n hn => by
              rw [← hns] at hn
              obtain ⟨x, hx, rfl⟩ := List.mem_map.1 hn
              exact HL6.out.2 x hx⟩
            have HW9 : Aside0 (Apart w9 [Wvs (.slice A6 X1.length c6) ns, Mm g (i + 1) (X1.map pr), Xm gx X1, Old w]) := ⟨hw9⟩
            obtain ⟨mx, hmx⟩ : ∃ mx, X1.length = mx := ⟨_, rfl⟩
            have HMX : Aside0 (mx ≤ 1099511627776 ∧ ns.length = mx) := ⟨by rw [← hmx]; exact HXL1.out, by rw [← hmx]; exact HNS.out.1⟩
            rw [hmx] at HW9 ⊢
            clear hw9 hns hmx HS6 HB7 HB8 HB9 HR8 HR6 HKL HKX hx6 hx7 hx8 hx9 HL6
            go_wp2_with fail
            go_loopg [17] (mx + 1) (fun kq v17 w' => ∃ j2 : Nat, v17 = .int .i64 j2 ∧ Aside0 (kq + j2 = mx + 1) ∧ Aside0 (j2 ≤ mx) ∧ Aside0 (Apart w' [Wvs (.slice A6 mx c6) ns, Mm g (i + 1) (X1.map pr), Xm gx X1, Old w]))
            case atStart => exact ⟨0, by simp, ⟨by omega⟩, ⟨Nat.zero_le _⟩, ⟨HW9.out⟩⟩
            case round =>
              clear HW9
              obtain ⟨j2, rfl, HKJ2, HJ2, HW2⟩ := hrel
              by_cases hj2 : j2 < mx
              · obtain ⟨k3, rfl⟩ : ∃ k3, gk = k3 + 1 := ⟨gk - 1, by have := HKJ2.out; omega⟩
                have r0 : (0 : Int) ≤ (j2 : Int) := by omega
                have r1 : (j2 : Int) < (mx : Int) := by omega
                have rd : decide ((j2 : Int) < (mx : Int)) = true := decide_eq_true r1
                have hj2n : j2 < ns.length := by have := HMX.out.2; omega
                obtain ⟨n, hn⟩ : ∃ n, ns[j2]? = some n := ⟨_, List.getElem?_eq_getElem hj2n⟩
                have HN := Aside0.mk hn
                have HNL : Aside0 (n ≤ 1099511627776) := ⟨HNS.out.2 n (List.mem_of_getElem? hn)⟩
                have HWN2 := Aside0.mk (show wrap64 ((j2 : Int) + 1) = ((j2 + 1 : Nat) : Int) from wrap_nat (by have := HMX.out.1; omega))
                clear hn hj2n
                go_wp2_with fail
                go_loopg [18] (n + 1) (fun kq v18 w' => ∃ j3 : Nat, v18 = .int .i64 j3 ∧ Aside0 (kq + j3 = n + 1) ∧ Aside0 (j3 ≤ n) ∧ Aside0 (Apart w' [Wvs (.slice A6 mx c6) ns, Mm g (i + 1) (X1.map pr), Xm gx X1, Old w]))
                case atStart => exact ⟨0, by simp, ⟨by omega⟩, ⟨Nat.zero_le _⟩, ⟨HW2.out⟩⟩
                case round =>
                  clear HW2
                  obtain ⟨j3, rfl, HKJ3, HJ3, HW3⟩ := hrel
                  obtain ⟨g0, B, d, rfl, hmc, hcell, hin⟩ := wvs_at HW3.out j2 n HN.out
                  by_cases hj3 : j3 < n
                  · obtain ⟨k4, rfl⟩ : ∃ k4, gk = k4 + 1 := ⟨gk - 1, by have := HKJ3.out; omega⟩
                    have s0 : (0 : Int) ≤ (j3 : Int) := by omega
                    have s1 : (j3 : Int) < (n : Int) := by omega
                    have sd : decide ((j3 : Int) < (n : Int)) = true := decide_eq_true s1
                    obtain ⟨hnd, g1, rfl, T, hst⟩ := hin j3 hj3
                    have HST := Aside0.mk hst
                    obtain ⟨q0, t0⟩ := T.x
                    obtain ⟨q1, t1⟩ := T.y
                    obtain ⟨q2, t2⟩ := T.z
                    have f0 := T.fx
                    have f1 := T.fy
                    have f2 := T.fz
                    have HWN3 := Aside0.mk (show wrap64 ((j3 : Int) + 1) = ((j3 + 1 : Nat) : Int) from wrap_nat (by have := HNL.out; omega))
                    clear T hst hin
                    go_wp2_with fail
                    go_roundg k4
                    case measure => omega
                    case rel => exact ⟨j3 + 1, by rw [HWN3.out], ⟨by have := HKJ3.out; omega⟩, ⟨by omega⟩, ⟨HST.out _ _ _⟩⟩
                  · have hje : j3 = n := by have := HJ3.out; omega
                    have sd : decide ((j3 : Int) < (n : Int)) = false := decide_eq_false (by omega)
                    clear hin
                    go_wp2_with fail
                    go_roundg k3
                    case measure => omega
                    case rel => exact ⟨j2 + 1, by rw [HWN2.out], ⟨by have := HKJ2.out; omega⟩, ⟨by omega⟩, ⟨HW3.out⟩⟩
              · have hje : j2 = mx := by have := HJ2.out; omega
                have rd : decide ((j2 : Int) < (mx : Int)) = false := decide_eq_false (by omega)
                have HWN := Aside0.mk (show wrap64 ((i : Int) + 1) = ((i + 1 : Nat) : Int) from wrap_nat (by have := HL.out; omega))
                go_wp2_with fail
                go_roundg k1
                case measure => omega
                case rel => exact ⟨i + 1, by rw [HWN.out], ⟨by have := HK.out; omega⟩, ⟨by omega⟩, X1, ⟨HX1.out⟩, ⟨HW2.out.tail⟩⟩
    · have hie : i = l.length := by have := HI.out; omega
      have hjd : decide ((i : Int) < (l.length : Int)) = false := decide_eq_false (by omega)
      have HB := Aside0.mk (old_below HS.out (show Old w ∈ _ by simp))
      go_wp2_with (first
        | (go_at_call 12; refine (sure_any _ (HLD.out.below HB.out)).mono ?_; rintro e w3 ⟨rfl, hb⟩; have HB3 := Aside0.mk (below_step HB.out hb); clear hb))
      go_ret
      exact ⟨rfl, HB3.out⟩
end Go.Proofs.YtiabggpijomjmaaDoor
