import Derived.Test.YteklabhmmfklbaaLosesA
namespace Go.Proofs.Yteklabhmmfklbaa
open Go.RowKit Print Go.Proofs.YteklabhmmfklbaaW.PrintWords Go.Proofs.YteklabhmmfklbaaW.PrintLast Go.Proofs.YteklabhmmfklbaaW.PrintMore
attribute [local go_sem] max2_int min2_int max_two min_two
set_option linter.unusedVariables false
set_option linter.unusedSimpArgs false
set_option maxHeartbeats 8000000 in
set_option maxRecDepth 100000 in
theorem loses_tail (n : Int) (t : Bool) (A : Option Addr) (c : Nat) (l : List O33) (w : World) (HL : Aside0 (tot l ≤ 1048576 ∧ ∀ o ∈ l, Sm o.2.2.2.1.f0 ∧ Sm o.2.2.2.1.f1 ∧ Sm o.2.2.2.2)) (HN : Aside0 (1 ≤ n ∧ n ≤ 65536))
    (g gF gT : Nat) (clock : Int) (s : St) (tI tO ri ro : RowsL) (v : Value) (ds : List S43) (wr : World) (HR : Aside0 (LoopL w g gT gF n t l l.length clock s tI tO ri ro v ds wr))
    (u3 u4 u5 u6 u11 u12 u13 u14 u15 u16 u17 u18 u19 u20 u21 u22 u23 u24 u25 u26 u27 u28 u29 u30 u31 u32 u33 u34 u35 u36 u37 u38 u39 u40 u41 u42 u43 u44 u45 u46 u47 u48 u49 u50 u51 u52 u53 u54 u55 u56 u57 u58 u59 u60 u61 u62 u63 u64 u65 u66 u67 u68 u69 u70 u71 u72 u73 u74 u75 u76 u77 u78 u79 u80 u81 u82 u83 u84 u85 u86 u87 u88 u89 u90 u91 u92 u93 u94 u95 u96 u97 u98 u99 u100 u101 u102 u103 u104 u105 u106 u107 u108 u109 u110 u111 u112 u113 u114 u115 u116 u117 u118 u119 u120 u121 u122 u123 u124 u125 u126 u127 u128 u129 u130 u131 u132 u133 u134 u135 u136 u137 u138 u139 u140 u141 u142 u143 u144 u145 u146 u147 u148 u149 u150 u151 u152 u153 u154 u155 u156 u157 u158 u159 u160 u161 u162 u163 u164 u165 u166 u167 u168 u169 u170 u171 u172 u173 u174 u175 u176 u177 u178 u179 u180 u181 u182 u183 u184 u185 u186 u187 u188 u189 u190 u191 u192 u193 u194 u195 u196 u197 u198 u199 u200 u201 u202 u203 u204 : Value) :
    Code.wp Try.prog tailC (bodyPost Try.prog Try.f4 fun e w' => e = .returned (.bool true) ∧ Below w.heap.size w w') { tmps := #[.int .i64 n, .bool t, .slice A l.length c, u3, u4, u5, u6, .pointer (some ⟨g, 0, none⟩), .pointer (some ⟨gF, 0, none⟩), .pointer (some ⟨gT, 0, none⟩), .int .i64 clock, u11, u12, u13, u14, u15, u16, u17, u18, u19, u20, u21, u22, u23, u24, u25, u26, u27, u28, u29, u30, u31, u32, u33, u34, u35, u36, u37, u38, u39, u40, u41, u42, u43, u44, u45, u46, u47, u48, u49, u50, u51, u52, u53, u54, u55, u56, u57, u58, u59, u60, u61, u62, u63, u64, u65, u66, u67, u68, u69, u70, u71, u72, u73, u74, u75, u76, u77, u78, u79, u80, u81, u82, u83, u84, u85, u86, u87, u88, u89, u90, u91, u92, u93, u94, u95, u96, u97, u98, u99, u100, u101, u102, u103, u104, u105, u106, u107, u108, u109, u110, u111, u112, u113, u114, u115, u116, u117, u118, u119, u120, u121, u122, u123, u124, u125, u126, u127, u128, u129, u130, u131, u132, u133, u134, u135, u136, u137, u138, u139, u140, u141, u142, u143, u144, u145, u146, u147, u148, u149, u150, u151, u152, u153, u154, u155, u156, u157, u158, u159, u160, u161, u162, u163, u164, u165, u166, u167, u168, u169, u170, u171, u172, u173, u174, u175, u176, u177, u178, u179, u180, u181, u182, u183, u184, u185, u186, u187, u188, u189, u190, u191, u192, u193, u194, u195, u196, u197, u198, u199, u200, u201, u202, u203, u204], defers := [] } wr := by
  have hu23 := Try.underlying23
  have hu31 := Try.underlying31
  have hu33 := Try.underlying33
  conv =>
    arg 2
    delta tailC Try.f4
    dsimp only [csnd, Option.getD]
  conv =>
    arg 4
    dsimp only
  have hie : l.take l.length = l := List.take_of_length_le (Nat.le_refl _)
  have hln := LoopP.lens (i := (l.length : Int)) (by simpa using HR.out.p) HL.out.1
  rw [Int.toNat_natCast] at hln
  rw [hie] at hln
  have hsmf := sm_flat HL.out.1 HL.out.2
  obtain ⟨s1, r1, o1, D1, m1, s2, r2, o2, D2, m2, hEF⟩ := end_f HR.out.p (by omega) HN.out
  have HEF := Aside0.mk hEF
  have hpI := HR.out.p.eI
  have hpO := HR.out.p.eO
  rw [hie] at hpI hpO
  have HPE := Aside0.mk (And.intro hpI hpO)
  have HLNS := Aside0.mk hln
  have HSMF := Aside0.mk hsmf
  have hc0 := HR.out.p.c0
  have hc1 := HR.out.p.c1
  have hn1 := HN.out.1
  have hn2 := HN.out.2
  have HSR : Aside0 (Apart wr [Rt g s ri ro, Told gT tI tO v ds, Fed w gF (fI l) (fO l)]) := ⟨by have h := HR.out.S; rw [hie] at h; exact h⟩
  clear hie hln hsmf hEF hpI hpO HR
  go_upto_region 22 with fail
  go_cut [14] (fun v14 wx => ∃ A6 c6, v14 = .slice A6 m1 c6 ∧ Aside0 (Apart wx [Rt g s1 r1 o1, Dl (.slice A6 m1 c6) D1, Told gT tI tO v ds, Fed w gF (fI l) (fO l)]))
  case first =>
    go_wp2_with (first | (go_at_call 10; refine (feed_fed (xs := []) (ys := []) (A := none) (A' := none) (c := 0) (c' := 0) clock 65536 (j := 1) HSR.out rfl (by repeat (first | exact Below.refl _ _ | apply below_alloc | apply pw_below_drewN | apply below_drew1)) HEF.out.f (Kd.F_nil _ _ _) (Nat.le_refl _) (Kd.F_nil _ _ _) (Nat.le_refl _) HEF.out.e1 HEF.out.l1).mono ?_; rintro e w5 ⟨A6, c6, rfl, hq⟩; have HQ := Aside0.mk hq; clear hq))
    go_meet
    case rel => exact ⟨A6, c6, rfl, HQ⟩
  case rest =>
    obtain ⟨A6, c6, rfl, HQ⟩ := hcut
    clear HSR
    go_upto_if 151 with fail
    go_cut [14] (fun v14 wx => ∃ (A : Option Addr) (c : Nat) (D : List S43) (md : Nat) (s3 : St), v14 = .slice A md c ∧ Aside0 (D.length = md ∧ flatI D = ri ∧ flatO D = ro) ∧ Aside0 (Apart wx [Rt g s3 [] [], Dl (.slice A md c) D, Told gT tI tO v ds, Fed w gF (fI l) (fO l)]))
    case first =>
      cases t
      · go_wp2
        go_meet
        case rel =>
          obtain ⟨h1, h2, h3, h4⟩ := HEF.out.no rfl
          have h := HQ.out.onto (by repeat (first | exact Below.refl _ _ | apply below_alloc | apply pw_below_drewN | apply below_drew1))
          rw [h1, h2] at h
          exact ⟨A6, c6, D1, m1, s1, rfl, ⟨HEF.out.l1, h3, h4⟩, ⟨h⟩⟩
      · obtain ⟨m3, hm3⟩ : ∃ m, (D1 ++ D2).length = m := ⟨_, rfl⟩
        have HM3 := Aside0.mk hm3
        clear hm3
        go_wp2_with (first
          | (go_at_call 11; refine (adv_sep0 (clock + n) HQ.out (by repeat (first | exact Below.refl _ _ | apply below_alloc | apply pw_below_drewN | apply below_drew1)) HEF.out.g1 HEF.out.i1 HEF.out.j1 HEF.out.mny HEF.out.e2 HEF.out.l2).mono ?_; rintro e w6 ⟨A7, c7, rfl, hq⟩; have HQ2 := Aside0.mk hq; clear hq HQ)
          | ((with_reducible refine gate_builtin (b := .append) (xs := #[.tmp 152, .tmp 157]) rfl ?_); at_builtin; refine app_sep rfl (.tmp 152) (.tmp 157) rfl (A := A6) (n := m1) (c := c6) (A' := A7) (m := m2) (c' := c7) (xs := D1) (ys := D2) (i := 2) (j := 1) rfl rfl HQ2.out rfl rfl HEF.out.ll ?_; intro A8 c8 w7 hq; rw [HM3.out] at hq; rw [HM3.out]; have HQ3 := Aside0.mk hq; clear hq HQ2))
        go_meet
        case rel =>
          obtain ⟨h1, h2, h3, h4⟩ := HEF.out.yes rfl
          have h := HQ3.out.pick 1
          rw [h1, h2] at h
          exact ⟨A8, c8, D1 ++ D2, m3, s2, rfl, ⟨HM3.out, h3, h4⟩, ⟨h⟩⟩
    case rest =>
      obtain ⟨AD, cD, DD, md, s3, rfl, HD, HQ2⟩ := hcut
      have HT0 := Aside0.mk (told_next ((HQ2.out.pick 1).pick 2))
      clear HQ HQ2 HEF
      have hmd0 : (0 : Int) ≤ md := by omega
      have HBT : Aside0 (∀ k : Int, 0 ≤ k → k < md → (tI ++ flatI (DD.take k.toNat)).length + (rd_T43 DD k).f1.f0.length ≤ 4194304 ∧ (tO ++ flatO (DD.take k.toNat)).length + (rd_T43 DD k).f1.f1.length ≤ 4194304) := ⟨fun k k0 k1 => by
        have hd := HD.out
        have hx : rd_T43 DD k = DD[k.toNat]'(by omega) := by unfold rd_T43; exact getD_get _ _ _ (by omega)
        have h2 := flat_le DD k.toNat (by omega)
        have h3 := HLNS.out
        rw [hd.2.1, hd.2.2] at h2
        rw [hx]
        simp only [List.length_append]
        omega⟩
      go_wp2
      go_loopg [15] md (fun kq v15 wx => ∃ k : Int, v15 = .int .i64 k ∧ Aside0 (0 ≤ k ∧ k + kq = md) ∧ Aside0 (Apart wx [Told gT (tI ++ flatI (DD.take k.toNat)) (tO ++ flatO (DD.take k.toNat)) (.slice AD md cD) DD, Rt g s3 [] [], Fed w gF (fI l) (fO l)]))
      case atStart => exact ⟨0, rfl, ⟨Int.le_refl _, by omega⟩, ⟨by simpa [flatI, flatO] using HT0.out⟩⟩
      case round =>
        clear HT0
        obtain ⟨k, rfl, HK2, HT2⟩ := hrel
        obtain ⟨k0, kk⟩ := HK2.out
        by_cases hk : k < md
        · obtain ⟨gk, rfl⟩ : ∃ j, gk = j + 1 := ⟨gk - 1, by omega⟩
          obtain ⟨vI, vO, E, F0, hS0, hR0, hL0⟩ := told_open HT2.out
          have hkk : k + 1 ≤ 9223372036854775807 := by have := Kd.C_max (Kd.R_reads' hR0).2.2; have := (Kd.R_reads' hR0).1; omega
          have hkd : k < DD.length := by have := HD.out.1; omega
          obtain ⟨uI, hUI⟩ : ∃ u, tI ++ flatI (DD.take k.toNat) = u := ⟨_, rfl⟩
          obtain ⟨uO, hUO⟩ : ∃ u, tO ++ flatO (DD.take k.toNat) = u := ⟨_, rfl⟩
          have HLN0 := HBT.out k k0 hk
          rw [hUI, hUO] at hS0 HLN0
          have HEQ : Aside0 (tI ++ flatI (DD.take (k + 1).toNat) = uI ++ (rd_T43 DD k).f1.f0 ∧ tO ++ flatO (DD.take (k + 1).toNat) = uO ++ (rd_T43 DD k).f1.f1) := ⟨by rw [(rd43_take k0 hkd).1, ← List.append_assoc, hUI], by rw [(rd43_take k0 hkd).2.1, ← List.append_assoc, hUO]⟩
          have HLN := Aside0.mk HLN0
          clear HLN0 hUI hUO
          obtain ⟨ae, B0, e0, B1, e1, eA, hE, q0, q3, q4, f3, f4⟩ := at43 hR0 k k0 hk
          subst eA
          have HE := Aside0.mk (show E (ae.add (k.toNat * 3)).block from by rw [add_block]; exact hE)
          have HXY := Aside0.mk (And.intro f3 f4)
          obtain ⟨FB, hFB, _⟩ := hS0.bx
          have hne : (ae.add (k.toNat * 3)).block ≠ gT := (hFB.e _ HE.out).2.1
          have hne2 : gT ≠ (ae.add (k.toNat * 3)).block := Ne.symm hne
          clear hFB
          obtain ⟨z0, z1, fz0, fz1⟩ := hS0.cells
          have HST := Aside0.mk hS0
          have HREST := Aside0.mk (And.intro hR0 hL0)
          clear hS0 hR0 hL0 hE f3 f4 hkd q0
          go_upto_block 5 with fail
          go_cut [] (fun wx => Aside0 (Apart wx [Told gT (tI ++ flatI (DD.take (k + 1).toNat)) (tO ++ flatO (DD.take (k + 1).toNat)) (.slice (some ae) md cD) DD, Rt g s3 [] [], Fed w gF (fI l) (fO l)]))
          case first =>
            clear HT2
            go_upto_region 28 with fail
            refine wp_region_G (fun w' => w'.cell? ⟨(ae.add (k.toNat * 3)).block, (ae.add (k.toNat * 3)).off + 1, none⟩ = some (.slice B0 (rd_T43 DD k).f1.f0.length e0) ∧ w'.cell? ⟨(ae.add (k.toNat * 3)).block, (ae.add (k.toNat * 3)).off + 2, none⟩ = some (.slice B1 (rd_T43 DD k).f1.f1.length e1)) (fun w' => w'.cell? ⟨gT, 0, none⟩ = some vI ∧ w'.cell? ⟨gT, 1, none⟩ = some vO) 19 (by kernel_rfl) ?_
            refine wpAnyG_takeW (i := 0) (oi := ?oic0) (v := ?vc0) ?hic0 (by kernel_rfl) (by kernel_rfl) (by kernel_rfl) (by kernel_rfl) ?hQc0 (Or.inl ⟨?hwc0, ?hyc0⟩) ⟨q3, q4⟩ (fun _ => ⟨z0, z1⟩) ?_
            case hic0 => first | (simp only [List.getElem?_toArray, List.getElem?_cons_zero, List.getElem?_cons_succ]; done) | (simp only [List.getElem?_toArray, List.getElem?_cons_zero, List.getElem?_cons_succ]; rfl)
            case hQc0 => exact fun _ _ _ h => h
            case hwc0 => rfl
            case hyc0 => (intro w hSw; (try dsimp only at hSw); go_simp; first | done | with_reducible rfl)
            try simp only [Act.put, List.setIfInBounds_toArray, List.set_cons_zero, List.set_cons_succ]
            refine wpAnyG_take (i := 1) (oi := ?oic1) (v := ?vc1) ?hic1 rfl (by kernel_rfl) (by kernel_rfl) (by kernel_rfl) (by kernel_rfl) (by kernel_rfl) (by kernel_rfl) ?hQc1 (Or.inl ⟨?hwc1, ?hyc1⟩) ⟨q3, q4⟩ ⟨z0, z1⟩ ?_
            case hic1 => first | (simp only [List.getElem?_toArray, List.getElem?_cons_zero, List.getElem?_cons_succ]; done) | (simp only [List.getElem?_toArray, List.getElem?_cons_zero, List.getElem?_cons_succ]; rfl)
            case hQc1 => exact fun _ _ _ h => h
            case hwc1 => rfl
            case hyc1 => (intro w hSw; (try dsimp only at hSw); go_simp; first | done | with_reducible rfl)
            try simp only [Act.put, List.setIfInBounds_toArray, List.set_cons_zero, List.set_cons_succ]
            refine wpAnyG_takeW (i := 2) (oi := ?oic2) (v := ?vc2) ?hic2 (by kernel_rfl) (by kernel_rfl) (by kernel_rfl) (by kernel_rfl) ?hQc2 (Or.inl ⟨?hwc2, ?hyc2⟩) ⟨q3, q4⟩ (fun _ => ⟨z0, z1⟩) ?_
            case hic2 => first | (simp only [List.getElem?_toArray, List.getElem?_cons_zero, List.getElem?_cons_succ]; done) | (simp only [List.getElem?_toArray, List.getElem?_cons_zero, List.getElem?_cons_succ]; rfl)
            case hQc2 => exact fun _ _ _ h => h
            case hwc2 => rfl
            case hyc2 => (intro w hSw; (try dsimp only at hSw); go_simp; first | done | with_reducible rfl)
            try simp only [Act.put, List.setIfInBounds_toArray, List.set_cons_zero, List.set_cons_succ]
            refine wpAnyG_takeW (i := 3) (oi := ?oic3) (v := ?vc3) ?hic3 (by kernel_rfl) (by kernel_rfl) (by kernel_rfl) (by kernel_rfl) ?hQc3 (Or.inl ⟨?hwc3, ?hyc3⟩) ⟨q3, q4⟩ (fun _ => ⟨z0, z1⟩) ?_
            case hic3 => first | (simp only [List.getElem?_toArray, List.getElem?_cons_zero, List.getElem?_cons_succ]; done) | (simp only [List.getElem?_toArray, List.getElem?_cons_zero, List.getElem?_cons_succ]; rfl)
            case hQc3 => exact fun _ _ _ h => h
            case hwc3 => rfl
            case hyc3 => (intro w hSw; (try dsimp only at hSw); go_simp; first | done | with_reducible rfl)
            try simp only [Act.put, List.setIfInBounds_toArray, List.set_cons_zero, List.set_cons_succ]
            refine wpAnyG_takeW (i := 4) (oi := ?oic4) (v := ?vc4) ?hic4 (by kernel_rfl) (by kernel_rfl) (by kernel_rfl) (by kernel_rfl) ?hQc4 (Or.inl ⟨?hwc4, ?hyc4⟩) ⟨q3, q4⟩ (fun _ => ⟨z0, z1⟩) ?_
            case hic4 => first | (simp only [List.getElem?_toArray, List.getElem?_cons_zero, List.getElem?_cons_succ]; done) | (simp only [List.getElem?_toArray, List.getElem?_cons_zero, List.getElem?_cons_succ]; rfl)
            case hQc4 => exact fun _ _ _ h => h
            case hwc4 => rfl
            case hyc4 => (intro w hSw; (try dsimp only at hSw); go_simp; first | done | with_reducible rfl)
            try simp only [Act.put, List.setIfInBounds_toArray, List.set_cons_zero, List.set_cons_succ]
            refine wpAnyG_takeW (i := 5) (oi := ?oic5) (v := ?vc5) ?hic5 (by kernel_rfl) (by kernel_rfl) (by kernel_rfl) (by kernel_rfl) ?hQc5 (Or.inl ⟨?hwc5, ?hyc5⟩) ⟨q3, q4⟩ (fun _ => ⟨z0, z1⟩) ?_
            case hic5 => first | (simp only [List.getElem?_toArray, List.getElem?_cons_zero, List.getElem?_cons_succ]; done) | (simp only [List.getElem?_toArray, List.getElem?_cons_zero, List.getElem?_cons_succ]; rfl)
            case hQc5 => exact fun _ _ _ h => h
            case hwc5 => rfl
            case hyc5 => (intro w hSw; (try dsimp only at hSw); go_simp; first | done | with_reducible rfl)
            try simp only [Act.put, List.setIfInBounds_toArray, List.set_cons_zero, List.set_cons_succ]
            refine wpAnyG_takeW (i := 6) (oi := ?oic6) (v := ?vc6) ?hic6 (by kernel_rfl) (by kernel_rfl) (by kernel_rfl) (by kernel_rfl) ?hQc6 (Or.inl ⟨?hwc6, ?hyc6⟩) ⟨q3, q4⟩ (fun _ => ⟨z0, z1⟩) ?_
            case hic6 => first | (simp only [List.getElem?_toArray, List.getElem?_cons_zero, List.getElem?_cons_succ]; done) | (simp only [List.getElem?_toArray, List.getElem?_cons_zero, List.getElem?_cons_succ]; rfl)
            case hQc6 => exact fun _ _ _ h => h
            case hwc6 => rfl
            case hyc6 => (intro w hSw; (try dsimp only at hSw); go_simp; first | done | with_reducible rfl)
            try simp only [Act.put, List.setIfInBounds_toArray, List.set_cons_zero, List.set_cons_succ]
            refine wpAnyG_takeW (i := 7) (oi := ?oic7) (v := ?vc7) ?hic7 (by kernel_rfl) (by kernel_rfl) (by kernel_rfl) (by kernel_rfl) ?hQc7 (Or.inl ⟨?hwc7, ?hyc7⟩) ⟨q3, q4⟩ (fun _ => ⟨z0, z1⟩) ?_
            case hic7 => first | (simp only [List.getElem?_toArray, List.getElem?_cons_zero, List.getElem?_cons_succ]; done) | (simp only [List.getElem?_toArray, List.getElem?_cons_zero, List.getElem?_cons_succ]; rfl)
            case hQc7 => exact fun _ _ _ h => h
            case hwc7 => rfl
            case hyc7 => (intro w hSw; (try dsimp only at hSw); go_simp; first | done | with_reducible rfl)
            try simp only [Act.put, List.setIfInBounds_toArray, List.set_cons_zero, List.set_cons_succ]
            refine wpAnyG_takeW (i := 9) (oi := ?oic9) (v := ?vc9) ?hic9 (by kernel_rfl) (by kernel_rfl) (by kernel_rfl) (by kernel_rfl) ?hQc9 (Or.inl ⟨?hwc9, ?hyc9⟩) ⟨q3, q4⟩ (fun _ => ⟨z0, z1⟩) ?_
            case hic9 => first | (simp only [List.getElem?_toArray, List.getElem?_cons_zero, List.getElem?_cons_succ]; done) | (simp only [List.getElem?_toArray, List.getElem?_cons_zero, List.getElem?_cons_succ]; rfl)
            case hQc9 => exact fun _ _ _ h => h
            case hwc9 => rfl
            case hyc9 => (intro w hSw; (try dsimp only at hSw); go_simp; first | done | with_reducible rfl)
            try simp only [Act.put, List.setIfInBounds_toArray, List.set_cons_zero, List.set_cons_succ]
            refine wpAnyG_take (i := 10) (oi := ?oic10) (v := ?vc10) ?hic10 rfl (by kernel_rfl) (by kernel_rfl) (by kernel_rfl) (by kernel_rfl) (by kernel_rfl) (by kernel_rfl) ?hQc10 (Or.inl ⟨?hwc10, ?hyc10⟩) ⟨q3, q4⟩ ⟨z0, z1⟩ ?_
            case hic10 => first | (simp only [List.getElem?_toArray, List.getElem?_cons_zero, List.getElem?_cons_succ]; done) | (simp only [List.getElem?_toArray, List.getElem?_cons_zero, List.getElem?_cons_succ]; rfl)
            case hQc10 => exact fun _ _ _ h => h
            case hwc10 => rfl
            case hyc10 => (intro w hSw; (try dsimp only at hSw); go_simp; first | done | with_reducible rfl)
            try simp only [Act.put, List.setIfInBounds_toArray, List.set_cons_zero, List.set_cons_succ]
            refine wpAnyG_takeW (i := 11) (oi := ?oic11) (v := ?vc11) ?hic11 (by kernel_rfl) (by kernel_rfl) (by kernel_rfl) (by kernel_rfl) ?hQc11 (Or.inl ⟨?hwc11, ?hyc11⟩) ⟨q3, q4⟩ (fun _ => ⟨z0, z1⟩) ?_
            case hic11 => first | (simp only [List.getElem?_toArray, List.getElem?_cons_zero, List.getElem?_cons_succ]; done) | (simp only [List.getElem?_toArray, List.getElem?_cons_zero, List.getElem?_cons_succ]; rfl)
            case hQc11 => exact fun _ _ _ h => h
            case hwc11 => rfl
            case hyc11 => (intro w hSw; (try dsimp only at hSw); go_simp; first | done | with_reducible rfl)
            try simp only [Act.put, List.setIfInBounds_toArray, List.set_cons_zero, List.set_cons_succ]
            refine wpAnyG_takeW (i := 12) (oi := ?oic12) (v := ?vc12) ?hic12 (by kernel_rfl) (by kernel_rfl) (by kernel_rfl) (by kernel_rfl) ?hQc12 (Or.inl ⟨?hwc12, ?hyc12⟩) ⟨q3, q4⟩ (fun _ => ⟨z0, z1⟩) ?_
            case hic12 => first | (simp only [List.getElem?_toArray, List.getElem?_cons_zero, List.getElem?_cons_succ]; done) | (simp only [List.getElem?_toArray, List.getElem?_cons_zero, List.getElem?_cons_succ]; rfl)
            case hQc12 => exact fun _ _ _ h => h
            case hwc12 => rfl
            case hyc12 => (intro w hSw; (try dsimp only at hSw); go_simp; first | done | with_reducible rfl)
            try simp only [Act.put, List.setIfInBounds_toArray, List.set_cons_zero, List.set_cons_succ]
            refine wpAnyG_takeW (i := 13) (oi := ?oic13) (v := ?vc13) ?hic13 (by kernel_rfl) (by kernel_rfl) (by kernel_rfl) (by kernel_rfl) ?hQc13 (Or.inl ⟨?hwc13, ?hyc13⟩) ⟨q3, q4⟩ (fun _ => ⟨z0, z1⟩) ?_
            case hic13 => first | (simp only [List.getElem?_toArray, List.getElem?_cons_zero, List.getElem?_cons_succ]; done) | (simp only [List.getElem?_toArray, List.getElem?_cons_zero, List.getElem?_cons_succ]; rfl)
            case hQc13 => exact fun _ _ _ h => h
            case hwc13 => rfl
            case hyc13 => (intro w hSw; (try dsimp only at hSw); go_simp; first | done | with_reducible rfl)
            try simp only [Act.put, List.setIfInBounds_toArray, List.set_cons_zero, List.set_cons_succ]
            refine wpAnyG_takeW (i := 14) (oi := ?oic14) (v := ?vc14) ?hic14 (by kernel_rfl) (by kernel_rfl) (by kernel_rfl) (by kernel_rfl) ?hQc14 (Or.inl ⟨?hwc14, ?hyc14⟩) ⟨q3, q4⟩ (fun _ => ⟨z0, z1⟩) ?_
            case hic14 => first | (simp only [List.getElem?_toArray, List.getElem?_cons_zero, List.getElem?_cons_succ]; done) | (simp only [List.getElem?_toArray, List.getElem?_cons_zero, List.getElem?_cons_succ]; rfl)
            case hQc14 => exact fun _ _ _ h => h
            case hwc14 => rfl
            case hyc14 => (intro w hSw; (try dsimp only at hSw); go_simp; first | done | with_reducible rfl)
            try simp only [Act.put, List.setIfInBounds_toArray, List.set_cons_zero, List.set_cons_succ]
            refine wpAnyG_takeW (i := 15) (oi := ?oic15) (v := ?vc15) ?hic15 (by kernel_rfl) (by kernel_rfl) (by kernel_rfl) (by kernel_rfl) ?hQc15 (Or.inl ⟨?hwc15, ?hyc15⟩) ⟨q3, q4⟩ (fun _ => ⟨z0, z1⟩) ?_
            case hic15 => first | (simp only [List.getElem?_toArray, List.getElem?_cons_zero, List.getElem?_cons_succ]; done) | (simp only [List.getElem?_toArray, List.getElem?_cons_zero, List.getElem?_cons_succ]; rfl)
            case hQc15 => exact fun _ _ _ h => h
            case hwc15 => rfl
            case hyc15 => (intro w hSw; (try dsimp only at hSw); go_simp; first | done | with_reducible rfl)
            try simp only [Act.put, List.setIfInBounds_toArray, List.set_cons_zero, List.set_cons_succ]
            refine wpAnyG_takeW (i := 16) (oi := ?oic16) (v := ?vc16) ?hic16 (by kernel_rfl) (by kernel_rfl) (by kernel_rfl) (by kernel_rfl) ?hQc16 (Or.inl ⟨?hwc16, ?hyc16⟩) ⟨q3, q4⟩ (fun _ => ⟨z0, z1⟩) ?_
            case hic16 => first | (simp only [List.getElem?_toArray, List.getElem?_cons_zero, List.getElem?_cons_succ]; done) | (simp only [List.getElem?_toArray, List.getElem?_cons_zero, List.getElem?_cons_succ]; rfl)
            case hQc16 => exact fun _ _ _ h => h
            case hwc16 => rfl
            case hyc16 => (intro w hSw; (try dsimp only at hSw); go_simp; first | done | with_reducible rfl)
            try simp only [Act.put, List.setIfInBounds_toArray, List.set_cons_zero, List.set_cons_succ]
            refine wpAnyG_one (i := 8) (o := ?oic8) (by kernel_rfl) ?hic8 (fun K' hK => ?_)
            case hic8 => first | (simp only [List.getElem?_toArray, List.getElem?_cons_zero, List.getElem?_cons_succ]; done) | (simp only [List.getElem?_toArray, List.getElem?_cons_zero, List.getElem?_cons_succ]; rfl)
            refine Stp.in_step (c := e0) (HST.out.below (by repeat (first | exact Below.refl _ _ | apply below_alloc | apply pw_below_drewN | apply below_drew1))) HXY.out.1 rfl (.tmp 166) (.tmp 172) rfl rfl rfl HLN.out.1 ?_
            intro A7 c7 w7 hs
            simp only [List.length_append] at hs
            obtain ⟨y0, y1, fy0, fy1⟩ := hs.cells
            have r3 := hs.read q3 HE.out
            have r4 := hs.read q4 HE.out
            have HS7 := Aside0.mk hs
            clear hs HST
            refine hK.out _ _ ⟨r3, r4⟩ (fun _ => ⟨y0, y1⟩) ?_
            clear hK K'
            try simp only [Act.put, List.setIfInBounds_toArray, List.set_cons_zero, List.set_cons_succ]
            refine wpAnyG_takeW (i := 18) (oi := ?oic18) (v := ?vc18) ?hic18 (by kernel_rfl) (by kernel_rfl) (by kernel_rfl) (by kernel_rfl) ?hQc18 (Or.inl ⟨?hwc18, ?hyc18⟩) ⟨r3, r4⟩ (fun _ => ⟨y0, y1⟩) ?_
            case hic18 => first | (simp only [List.getElem?_toArray, List.getElem?_cons_zero, List.getElem?_cons_succ]; done) | (simp only [List.getElem?_toArray, List.getElem?_cons_zero, List.getElem?_cons_succ]; rfl)
            case hQc18 => exact fun _ _ _ h => h
            case hwc18 => rfl
            case hyc18 => (intro w hSw; (try dsimp only at hSw); go_simp; first | done | with_reducible rfl)
            try simp only [Act.put, List.setIfInBounds_toArray, List.set_cons_zero, List.set_cons_succ]
            refine wpAnyG_one (i := 17) (o := ?oic17) (by kernel_rfl) ?hic17 (fun K' hK => ?_)
            case hic17 => first | (simp only [List.getElem?_toArray, List.getElem?_cons_zero, List.getElem?_cons_succ]; done) | (simp only [List.getElem?_toArray, List.getElem?_cons_zero, List.getElem?_cons_succ]; rfl)
            refine Stp.out_step (c := e1) HS7.out HXY.out.2 rfl (.tmp 175) (.tmp 181) rfl rfl rfl HLN.out.2 ?_
            intro A8 c8 w8 hs
            simp only [List.length_append] at hs
            obtain ⟨x0, x1, fx0, fx1⟩ := hs.cells
            have u3 := hs.read q3 HE.out
            have u4 := hs.read q4 HE.out
            have HS8 := Aside0.mk hs
            clear hs HS7
            refine hK.out _ _ ⟨u3, u4⟩ (fun _ => ⟨x0, x1⟩) ?_
            clear hK K'
            try simp only [Act.put, List.setIfInBounds_toArray, List.set_cons_zero, List.set_cons_succ]
            refine wpAnyG_one (i := 19) (o := ?oic19) (by kernel_rfl) ?hic19 (fun K' hK => ?_)
            case hic19 => first | (simp only [List.getElem?_toArray, List.getElem?_cons_zero, List.getElem?_cons_succ]; done) | (simp only [List.getElem?_toArray, List.getElem?_cons_zero, List.getElem?_cons_succ]; rfl)
            go_simp
            refine hK.out _ _ ?hTc19 (fun h => absurd h (by decide)) ?_
            case hTc19 => (refine ⟨?_, ?_⟩ <;> (go_simp; done))
            clear hK K'
            try simp only [Act.put, List.setIfInBounds_toArray, List.set_cons_zero, List.set_cons_succ]
            refine wpAnyG_takeW (i := 20) (oi := ?oic20) (v := ?vc20) ?hic20 (by kernel_rfl) (by kernel_rfl) (by kernel_rfl) (by kernel_rfl) ?hQc20 (Or.inl ⟨?hwc20, ?hyc20⟩) ?hTxc20 (fun h => absurd h (by decide)) ?_
            case hic20 => first | (simp only [List.getElem?_toArray, List.getElem?_cons_zero, List.getElem?_cons_succ]; done) | (simp only [List.getElem?_toArray, List.getElem?_cons_zero, List.getElem?_cons_succ]; rfl)
            case hQc20 => exact fun _ _ _ h => h
            case hwc20 => rfl
            case hyc20 => (intro w hSw; (try dsimp only at hSw); go_simp; first | done | with_reducible rfl)
            case hTxc20 => (refine ⟨?_, ?_⟩ <;> (go_simp; done))
            try simp only [Act.put, List.setIfInBounds_toArray, List.set_cons_zero, List.set_cons_succ]
            refine wpAnyG_one (i := 21) (o := ?oic21) (by kernel_rfl) ?hic21 (fun K' hK => ?_)
            case hic21 => first | (simp only [List.getElem?_toArray, List.getElem?_cons_zero, List.getElem?_cons_succ]; done) | (simp only [List.getElem?_toArray, List.getElem?_cons_zero, List.getElem?_cons_succ]; rfl)
            go_simp
            refine hK.out _ _ ?hTc21 (fun h => absurd h (by decide)) ?_
            case hTc21 => (refine ⟨?_, ?_⟩ <;> (go_simp; done))
            clear hK K'
            try simp only [Act.put, List.setIfInBounds_toArray, List.set_cons_zero, List.set_cons_succ]
            refine wpAnyG_done (by kernel_rfl) ?_ _
            go_wp2_with fail
            go_meet
            case rel =>
              have hF := HS8.out.put2
              have hG := told_done hF HREST.out.1 HREST.out.2
              rw [← HEQ.out.1, ← HEQ.out.2] at hG
              exact ⟨hG⟩
          case rest =>
            have HT3 := hcut
            clear HT2 HST HREST HXY HE q3 q4 z0 z1 fz0 fz1
            go_wp2
            go_roundg gk
            case measure => omega
            case rel => exact ⟨k + 1, rfl, ⟨by omega, by omega⟩, HT3⟩
        · have hke : DD.take k.toNat = DD := List.take_of_length_le (by have := HD.out.1; omega)
          have HT3 : Aside0 (Apart wr [Told gT (fI l) (fO l) (.slice AD md cD) DD, Rt g s3 [] [], Fed w gF (fI l) (fO l)]) := ⟨by have h := HT2.out; rw [hke, HD.out.2.1, HD.out.2.2, HPE.out.1, HPE.out.2] at h; exact h⟩
          obtain ⟨A7, c7, A8, c8, hrt⟩ := told_reads (j := 0) HT3.out rfl
          obtain ⟨A9, c9, A10, c10, hrf⟩ := fed_reads (j := 2) HT3.out rfl
          have z0 := hrt.c0
          have z1 := hrt.c1
          have z2 := hrf.c0
          have z3 := hrf.c1
          have HRT := Aside0.mk hrt
          have HRF := Aside0.mk hrf
          clear hrt hrf HT2 hke
          go_upto_region 29 with fail
          go_wp2_with (first
            | (go_at_call 15; refine (samerows_any (hn := rfl) (hn' := rfl) (HRF.out.below (by repeat (first | exact Below.refl _ _ | apply below_alloc | apply pw_below_drewN | apply below_drew1))).i HRF.out.l0 (HRT.out.below (by repeat (first | exact Below.refl _ _ | apply below_alloc | apply pw_below_drewN | apply below_drew1))).i HRT.out.l0 HSMF.out.1).mono ?_; rintro e w8 ⟨rfl, hb⟩; have HB8 := Aside0.mk (below_step (by repeat (first | exact Below.refl _ _ | apply below_alloc | apply pw_below_drewN | apply below_drew1)) hb); have y2 := pw_cell_below HB8.out z2; have y3 := pw_cell_below HB8.out z3; have y0 := pw_cell_below HB8.out z0; have y1 := pw_cell_below HB8.out z1; have HRT2 := Aside0.mk (HRT.out.below HB8.out); have HRF2 := Aside0.mk (HRF.out.below HB8.out); have HT5 := Aside0.mk (HT3.out.onto HB8.out); clear hb HRT HRF HB8)
            | (go_at_call 15; refine (samerows_any (hn := rfl) (hn' := rfl) (HRF2.out.below (by repeat (first | exact Below.refl _ _ | apply below_alloc | apply pw_below_drewN | apply below_drew1))).o HRF2.out.l1 (HRT2.out.below (by repeat (first | exact Below.refl _ _ | apply below_alloc | apply pw_below_drewN | apply below_drew1))).o HRT2.out.l1 HSMF.out.2).mono ?_; rintro e w9 ⟨rfl, hb⟩; have HT6 := Aside0.mk (HT5.out.onto (below_step (by repeat (first | exact Below.refl _ _ | apply below_alloc | apply pw_below_drewN | apply below_drew1)) hb)); clear hb HRT2 HRF2)
            | (go_at_call 14; refine (len_any (j := 1) HT6.out rfl (by repeat (first | exact Below.refl _ _ | apply below_alloc | apply pw_below_drewN | apply below_drew1)) Sm.nil Sm.nil (m := 0) (by simp)).mono ?_; rintro e w10 ⟨rfl, hb⟩; have HT7 := Aside0.mk (HT6.out.onto (below_step (by repeat (first | exact Below.refl _ _ | apply below_alloc | apply pw_below_drewN | apply below_drew1)) hb)); clear hb HT6)
            | (go_at_call 8; refine (sure_any _).mono ?_; rintro e w11 ⟨rfl, hb⟩; have HB11 := Aside0.mk (below_step (below_step (Sep.fed (HT7.out.pick 2)) (by repeat (first | exact Below.refl _ _ | apply below_alloc | apply pw_below_drewN | apply below_drew1))) hb); clear hb HT7))
          go_ret
          exact ⟨by simp, HB11.out⟩
end Go.Proofs.Yteklabhmmfklbaa
