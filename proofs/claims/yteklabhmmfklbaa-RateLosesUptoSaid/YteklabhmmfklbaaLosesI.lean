import Derived.Test.YteklabhmmfklbaaLosesA
namespace Go.Proofs.Yteklabhmmfklbaa
open Go.RowKit Print Go.Proofs.YteklabhmmfklbaaW.PrintWords Go.Proofs.YteklabhmmfklbaaW.PrintLast Go.Proofs.YteklabhmmfklbaaW.PrintMore
attribute [local go_sem] max2_int min2_int max_two min_two
set_option linter.unusedVariables false
set_option linter.unusedSimpArgs false
set_option maxHeartbeats 8000000 in
set_option maxRecDepth 100000 in
theorem loses_inner (n : Int) (t : Bool) (c : Nat) (l : List O33) (w : World) (HL : Aside0 (tot l ≤ 1048576 ∧ ∀ o ∈ l, Sm o.2.2.2.1.f0 ∧ Sm o.2.2.2.1.f1 ∧ Sm o.2.2.2.2))
    (g gF gT : Nat) (c1 i : Int) (i0 : 0 ≤ i) (hi : i < l.length) (s' : St) (tI tO ri' ro' : RowsL) (ds' : List S43) (wr : World) (ad : Addr) (A6 : Option Addr) (md c6 : Nat)
    (HFD : Aside0 (LoopP n t l (i + 1).toNat c1 s' (tI ++ flatI ds') (tO ++ flatO ds') ri' ro' ∧ ∀ x ∈ ds', x.f0 ≤ c1)) (HMD : Aside0 (ds'.length = md))
    (HQ2 : Aside0 (Apart wr [Told gT tI tO (.slice A6 md c6) ds', Fed w gF (fI (l.take (i + 1).toNat)) (fO (l.take (i + 1).toNat)), Rt g s' ri' ro']))
    (u0 u1 u3 u4 u5 u6 u13 u14 u15 u16 u17 u18 u19 u20 u21 u22 u23 u24 u25 u26 u27 u28 u29 u30 u31 u32 u33 u34 u35 u36 u37 u38 u39 u40 u41 u42 u43 u44 u45 u46 u47 u48 u49 u50 u51 u52 u53 u54 u55 u56 u57 u58 u59 u60 u61 u62 u63 u64 u65 u66 u67 u68 u69 u70 u71 u72 u73 u74 u75 u76 u77 u78 u79 u80 u81 u82 u83 u84 u85 u86 u87 u88 u89 u90 u91 u92 u93 u94 u95 u96 u97 u98 u99 u100 u101 u102 u103 u104 u105 u106 u107 u108 u109 u110 u111 u112 u113 u114 u115 u116 u117 u118 u119 u120 u121 u122 u123 u124 u125 u126 u127 u128 u129 u130 u131 u132 u133 u134 u135 u136 u137 u138 u139 u140 u141 u142 u143 u144 u145 u146 u147 u148 u149 u150 u151 u152 u153 u154 u155 u156 u157 u158 u159 u160 u161 u162 u163 u164 u165 u166 u167 u168 u169 u170 u171 u172 u173 u174 u175 u176 u177 u178 u179 u180 u181 u182 u183 u184 u185 u186 u187 u188 u189 u190 u191 u192 u193 u194 u195 u196 u197 u198 u199 u200 u201 u202 u203 u204 : Value) (N : Act → World → Prop)
    (HQN : ∀ (x6 x13 x25 x26 x27 x28 x29 x30 x31 x32 x33 x34 x35 x36 x37 x38 x39 x40 x41 x42 x43 x44 x45 x46 x47 x48 x49 x50 x51 x52 x53 x54 x55 x56 x57 x58 x59 x60 x61 x62 x63 x64 x65 x66 x67 x68 x69 x70 x71 x72 x73 x74 x75 x76 x77 x78 x79 x80 x81 x82 x83 x84 x85 x86 x87 x88 x89 x90 x91 x92 x93 x94 x95 x96 x97 x98 x99 x100 x101 x102 x103 x104 x105 x106 x107 x108 x109 x110 x111 x112 x113 x114 x115 x116 x117 x118 x119 x120 x121 x122 x123 x124 x125 x126 x127 x128 x129 x130 x131 x132 x133 x134 x135 x136 x137 x138 x139 x140 x141 x142 x143 x144 x145 x146 : Value) (wx : World), Apart wx [Told gT (tI ++ flatI ds') (tO ++ flatO ds') (.slice A6 md c6) ds', Fed w gF (fI (l.take (i + 1).toNat)) (fO (l.take (i + 1).toNat)), Rt g s' ri' ro'] → N { tmps := #[u0, u1, .slice (some ad) l.length c, u3, u4, u5, x6, .pointer (some ⟨g, 0, none⟩), .pointer (some ⟨gF, 0, none⟩), .pointer (some ⟨gT, 0, none⟩), .int .i64 c1, .int .i64 i, .slice A6 md c6, x13, u14, u15, u16, u17, u18, u19, u20, u21, u22, u23, u24, x25, x26, x27, x28, x29, x30, x31, x32, x33, x34, x35, x36, x37, x38, x39, x40, x41, x42, x43, x44, x45, x46, x47, x48, x49, x50, x51, x52, x53, x54, x55, x56, x57, x58, x59, x60, x61, x62, x63, x64, x65, x66, x67, x68, x69, x70, x71, x72, x73, x74, x75, x76, x77, x78, x79, x80, x81, x82, x83, x84, x85, x86, x87, x88, x89, x90, x91, x92, x93, x94, x95, x96, x97, x98, x99, x100, x101, x102, x103, x104, x105, x106, x107, x108, x109, x110, x111, x112, x113, x114, x115, x116, x117, x118, x119, x120, x121, x122, x123, x124, x125, x126, x127, x128, x129, x130, x131, x132, x133, x134, x135, x136, x137, x138, x139, x140, x141, x142, x143, x144, x145, x146, u147, u148, u149, u150, u151, u152, u153, u154, u155, u156, u157, u158, u159, u160, u161, u162, u163, u164, u165, u166, u167, u168, u169, u170, u171, u172, u173, u174, u175, u176, u177, u178, u179, u180, u181, u182, u183, u184, u185, u186, u187, u188, u189, u190, u191, u192, u193, u194, u195, u196, u197, u198, u199, u200, u201, u202, u203, u204], defers := [] } wx) :
    Code.wp Try.prog innerC (Exit.then N (fun _ _ _ => False)) { tmps := #[u0, u1, .slice (some ad) l.length c, u3, u4, u5, u6, .pointer (some ⟨g, 0, none⟩), .pointer (some ⟨gF, 0, none⟩), .pointer (some ⟨gT, 0, none⟩), .int .i64 c1, .int .i64 i, .slice A6 md c6, u13, u14, u15, u16, u17, u18, u19, u20, u21, u22, u23, u24, u25, u26, u27, u28, u29, u30, u31, u32, u33, u34, u35, u36, u37, u38, u39, u40, u41, u42, u43, u44, u45, u46, u47, u48, u49, u50, u51, u52, u53, u54, u55, u56, u57, u58, u59, u60, u61, u62, u63, u64, u65, u66, u67, u68, u69, u70, u71, u72, u73, u74, u75, u76, u77, u78, u79, u80, u81, u82, u83, u84, u85, u86, u87, u88, u89, u90, u91, u92, u93, u94, u95, u96, u97, u98, u99, u100, u101, u102, u103, u104, u105, u106, u107, u108, u109, u110, u111, u112, u113, u114, u115, u116, u117, u118, u119, u120, u121, u122, u123, u124, u125, u126, u127, u128, u129, u130, u131, u132, u133, u134, u135, u136, u137, u138, u139, u140, u141, u142, u143, u144, u145, u146, u147, u148, u149, u150, u151, u152, u153, u154, u155, u156, u157, u158, u159, u160, u161, u162, u163, u164, u165, u166, u167, u168, u169, u170, u171, u172, u173, u174, u175, u176, u177, u178, u179, u180, u181, u182, u183, u184, u185, u186, u187, u188, u189, u190, u191, u192, u193, u194, u195, u196, u197, u198, u199, u200, u201, u202, u203, u204], defers := [] } wr := by
  have hu23 := Try.underlying23
  have hu31 := Try.underlying31
  have hu33 := Try.underlying33
  dsimp only at HQN
  let Q0 : Exit → Act → World → Prop := bodyPost Try.prog Try.f4 (fun _ _ => True)
  have HQ3 := Aside0.mk HQN
  clear HQN
  conv =>
    arg 2
    delta innerC Try.f4
    dsimp only [csnd, cfst, cblk, cloop, Option.getD]
  conv =>
    arg 4
    dsimp only
  have hmd0 : (0 : Int) ≤ md := by omega
  have HBT : Aside0 (∀ k : Int, 0 ≤ k → k < md → (tI ++ flatI (ds'.take k.toNat)).length + (rd_T43 ds' k).f1.f0.length ≤ 4194304 ∧ (tO ++ flatO (ds'.take k.toNat)).length + (rd_T43 ds' k).f1.f1.length ≤ 4194304) := ⟨told_small HFD.out HL.out.1 HMD.out⟩
  go_wp2
  go_loopg [13] md (fun kq v13 wx => ∃ k : Int, v13 = .int .i64 k ∧ Aside0 (0 ≤ k ∧ k + kq = md) ∧ Aside0 (Apart wx [Told gT (tI ++ flatI (ds'.take k.toNat)) (tO ++ flatO (ds'.take k.toNat)) (.slice A6 md c6) ds', Fed w gF (fI (l.take (i + 1).toNat)) (fO (l.take (i + 1).toNat)), Rt g s' ri' ro']))
  case atStart => exact ⟨0, rfl, ⟨Int.le_refl _, by omega⟩, ⟨by simpa [flatI, flatO] using HQ2.out⟩⟩
  case round =>
    clear HQ2
    obtain ⟨k, rfl, HK2, HT2⟩ := hrel
    obtain ⟨k0, kk⟩ := HK2.out
    by_cases hk : k < md
    · obtain ⟨gk, rfl⟩ : ∃ j, gk = j + 1 := ⟨gk - 1, by omega⟩
      obtain ⟨vI, vO, E, F0, hS0, hR0, hL0⟩ := told_open HT2.out
      have hkk : k + 1 ≤ 9223372036854775807 := by have := Kd.C_max (Kd.R_reads' hR0).2.2; have := (Kd.R_reads' hR0).1; omega
      have hkd : k < ds'.length := by have := HMD.out; omega
      obtain ⟨uI, hUI⟩ : ∃ u, tI ++ flatI (ds'.take k.toNat) = u := ⟨_, rfl⟩
      obtain ⟨uO, hUO⟩ : ∃ u, tO ++ flatO (ds'.take k.toNat) = u := ⟨_, rfl⟩
      have HLN0 := HBT.out k k0 hk
      rw [hUI, hUO] at hS0 HLN0
      have HEQ : Aside0 (tI ++ flatI (ds'.take (k + 1).toNat) = uI ++ (rd_T43 ds' k).f1.f0 ∧ tO ++ flatO (ds'.take (k + 1).toNat) = uO ++ (rd_T43 ds' k).f1.f1) := ⟨by rw [(rd43_take k0 hkd).1, ← List.append_assoc, hUI], by rw [(rd43_take k0 hkd).2.1, ← List.append_assoc, hUO]⟩
      have hTm : (rd_T43 ds' k).f0 ≤ c1 := HFD.out.2 _ (rd43_take k0 hkd).2.2
      have HLN := Aside0.mk HLN0
      clear HLN0 hUI hUO
      obtain ⟨ae, B0, e0, B1, e1, eA, hE, q0, q3, q4, f3, f4⟩ := at43 hR0 k k0 hk
      subst eA
      have HE := Aside0.mk (show E (ae.add (k.toNat * 3)).block from by rw [add_block]; exact hE)
      have HXY := Aside0.mk (And.intro f3 f4)
      obtain ⟨FB, hFB, _⟩ := hS0.bx
      have hne : (ae.add (k.toNat * 3)).block ≠ gT := (hFB.e _ HE.out).2.1
      have hne2 : gT ≠ (ae.add (k.toNat * 3)).block := Ne.symm hne
      clear hFB
      obtain ⟨z0, z1, fz0, fz1⟩ := hS0.cells
      have HST := Aside0.mk hS0
      have HREST := Aside0.mk (And.intro hR0 hL0)
      obtain ⟨tm, htm⟩ : ∃ tm, (rd_T43 ds' k).f0 = tm := ⟨_, rfl⟩
      rw [htm] at q0 hTm
      have dT : decide (c1 < tm) = false := decide_eq_false (by omega)
      clear hS0 hR0 hL0 hE f3 f4 hkd htm hTm
      go_upto_block 3 with fail
      go_cut [] (fun wx => Aside0 (Apart wx [Told gT (tI ++ flatI (ds'.take (k + 1).toNat)) (tO ++ flatO (ds'.take (k + 1).toNat)) (.slice (some ae) md c6) ds', Fed w gF (fI (l.take (i + 1).toNat)) (fO (l.take (i + 1).toNat)), Rt g s' ri' ro']))
      case first =>
        clear HT2
        go_upto_region 19 with fail
        refine wp_region_G (fun w' => w'.cell? ⟨(ae.add (k.toNat * 3)).block, (ae.add (k.toNat * 3)).off + 1, none⟩ = some (.slice B0 (rd_T43 ds' k).f1.f0.length e0) ∧ w'.cell? ⟨(ae.add (k.toNat * 3)).block, (ae.add (k.toNat * 3)).off + 2, none⟩ = some (.slice B1 (rd_T43 ds' k).f1.f1.length e1)) (fun w' => w'.cell? ⟨gT, 0, none⟩ = some vI ∧ w'.cell? ⟨gT, 1, none⟩ = some vO) 19 (by kernel_rfl) ?_
        refine wpAnyG_takeW (i := 0) (oi := ?oib0) (v := ?vb0) ?hib0 (by kernel_rfl) (by kernel_rfl) (by kernel_rfl) (by kernel_rfl) ?hQb0 (Or.inl ⟨?hwb0, ?hyb0⟩) ⟨q3, q4⟩ (fun _ => ⟨z0, z1⟩) ?_
        case hib0 => first | (simp only [List.getElem?_toArray, List.getElem?_cons_zero, List.getElem?_cons_succ]; done) | (simp only [List.getElem?_toArray, List.getElem?_cons_zero, List.getElem?_cons_succ]; rfl)
        case hQb0 => exact fun _ _ _ h => h
        case hwb0 => rfl
        case hyb0 => (intro w hSw; (try dsimp only at hSw); go_simp; first | done | with_reducible rfl)
        try simp only [Act.put, List.setIfInBounds_toArray, List.set_cons_zero, List.set_cons_succ]
        refine wpAnyG_take (i := 1) (oi := ?oib1) (v := ?vb1) ?hib1 rfl (by kernel_rfl) (by kernel_rfl) (by kernel_rfl) (by kernel_rfl) (by kernel_rfl) (by kernel_rfl) ?hQb1 (Or.inl ⟨?hwb1, ?hyb1⟩) ⟨q3, q4⟩ ⟨z0, z1⟩ ?_
        case hib1 => first | (simp only [List.getElem?_toArray, List.getElem?_cons_zero, List.getElem?_cons_succ]; done) | (simp only [List.getElem?_toArray, List.getElem?_cons_zero, List.getElem?_cons_succ]; rfl)
        case hQb1 => exact fun _ _ _ h => h
        case hwb1 => rfl
        case hyb1 => (intro w hSw; (try dsimp only at hSw); go_simp; first | done | with_reducible rfl)
        try simp only [Act.put, List.setIfInBounds_toArray, List.set_cons_zero, List.set_cons_succ]
        refine wpAnyG_takeW (i := 2) (oi := ?oib2) (v := ?vb2) ?hib2 (by kernel_rfl) (by kernel_rfl) (by kernel_rfl) (by kernel_rfl) ?hQb2 (Or.inl ⟨?hwb2, ?hyb2⟩) ⟨q3, q4⟩ (fun _ => ⟨z0, z1⟩) ?_
        case hib2 => first | (simp only [List.getElem?_toArray, List.getElem?_cons_zero, List.getElem?_cons_succ]; done) | (simp only [List.getElem?_toArray, List.getElem?_cons_zero, List.getElem?_cons_succ]; rfl)
        case hQb2 => exact fun _ _ _ h => h
        case hwb2 => rfl
        case hyb2 => (intro w hSw; (try dsimp only at hSw); go_simp; first | done | with_reducible rfl)
        try simp only [Act.put, List.setIfInBounds_toArray, List.set_cons_zero, List.set_cons_succ]
        refine wpAnyG_takeW (i := 3) (oi := ?oib3) (v := ?vb3) ?hib3 (by kernel_rfl) (by kernel_rfl) (by kernel_rfl) (by kernel_rfl) ?hQb3 (Or.inl ⟨?hwb3, ?hyb3⟩) ⟨q3, q4⟩ (fun _ => ⟨z0, z1⟩) ?_
        case hib3 => first | (simp only [List.getElem?_toArray, List.getElem?_cons_zero, List.getElem?_cons_succ]; done) | (simp only [List.getElem?_toArray, List.getElem?_cons_zero, List.getElem?_cons_succ]; rfl)
        case hQb3 => exact fun _ _ _ h => h
        case hwb3 => rfl
        case hyb3 => (intro w hSw; (try dsimp only at hSw); go_simp; first | done | with_reducible rfl)
        try simp only [Act.put, List.setIfInBounds_toArray, List.set_cons_zero, List.set_cons_succ]
        refine wpAnyG_takeW (i := 4) (oi := ?oib4) (v := ?vb4) ?hib4 (by kernel_rfl) (by kernel_rfl) (by kernel_rfl) (by kernel_rfl) ?hQb4 (Or.inl ⟨?hwb4, ?hyb4⟩) ⟨q3, q4⟩ (fun _ => ⟨z0, z1⟩) ?_
        case hib4 => first | (simp only [List.getElem?_toArray, List.getElem?_cons_zero, List.getElem?_cons_succ]; done) | (simp only [List.getElem?_toArray, List.getElem?_cons_zero, List.getElem?_cons_succ]; rfl)
        case hQb4 => exact fun _ _ _ h => h
        case hwb4 => rfl
        case hyb4 => (intro w hSw; (try dsimp only at hSw); go_simp; first | done | with_reducible rfl)
        try simp only [Act.put, List.setIfInBounds_toArray, List.set_cons_zero, List.set_cons_succ]
        refine wpAnyG_takeW (i := 5) (oi := ?oib5) (v := ?vb5) ?hib5 (by kernel_rfl) (by kernel_rfl) (by kernel_rfl) (by kernel_rfl) ?hQb5 (Or.inl ⟨?hwb5, ?hyb5⟩) ⟨q3, q4⟩ (fun _ => ⟨z0, z1⟩) ?_
        case hib5 => first | (simp only [List.getElem?_toArray, List.getElem?_cons_zero, List.getElem?_cons_succ]; done) | (simp only [List.getElem?_toArray, List.getElem?_cons_zero, List.getElem?_cons_succ]; rfl)
        case hQb5 => exact fun _ _ _ h => h
        case hwb5 => rfl
        case hyb5 => (intro w hSw; (try dsimp only at hSw); go_simp; first | done | with_reducible rfl)
        try simp only [Act.put, List.setIfInBounds_toArray, List.set_cons_zero, List.set_cons_succ]
        refine wpAnyG_takeW (i := 6) (oi := ?oib6) (v := ?vb6) ?hib6 (by kernel_rfl) (by kernel_rfl) (by kernel_rfl) (by kernel_rfl) ?hQb6 (Or.inl ⟨?hwb6, ?hyb6⟩) ⟨q3, q4⟩ (fun _ => ⟨z0, z1⟩) ?_
        case hib6 => first | (simp only [List.getElem?_toArray, List.getElem?_cons_zero, List.getElem?_cons_succ]; done) | (simp only [List.getElem?_toArray, List.getElem?_cons_zero, List.getElem?_cons_succ]; rfl)
        case hQb6 => exact fun _ _ _ h => h
        case hwb6 => rfl
        case hyb6 => (intro w hSw; (try dsimp only at hSw); go_simp; first | done | with_reducible rfl)
        try simp only [Act.put, List.setIfInBounds_toArray, List.set_cons_zero, List.set_cons_succ]
        refine wpAnyG_takeW (i := 7) (oi := ?oib7) (v := ?vb7) ?hib7 (by kernel_rfl) (by kernel_rfl) (by kernel_rfl) (by kernel_rfl) ?hQb7 (Or.inl ⟨?hwb7, ?hyb7⟩) ⟨q3, q4⟩ (fun _ => ⟨z0, z1⟩) ?_
        case hib7 => first | (simp only [List.getElem?_toArray, List.getElem?_cons_zero, List.getElem?_cons_succ]; done) | (simp only [List.getElem?_toArray, List.getElem?_cons_zero, List.getElem?_cons_succ]; rfl)
        case hQb7 => exact fun _ _ _ h => h
        case hwb7 => rfl
        case hyb7 => (intro w hSw; (try dsimp only at hSw); go_simp; first | done | with_reducible rfl)
        try simp only [Act.put, List.setIfInBounds_toArray, List.set_cons_zero, List.set_cons_succ]
        refine wpAnyG_takeW (i := 9) (oi := ?oib9) (v := ?vb9) ?hib9 (by kernel_rfl) (by kernel_rfl) (by kernel_rfl) (by kernel_rfl) ?hQb9 (Or.inl ⟨?hwb9, ?hyb9⟩) ⟨q3, q4⟩ (fun _ => ⟨z0, z1⟩) ?_
        case hib9 => first | (simp only [List.getElem?_toArray, List.getElem?_cons_zero, List.getElem?_cons_succ]; done) | (simp only [List.getElem?_toArray, List.getElem?_cons_zero, List.getElem?_cons_succ]; rfl)
        case hQb9 => exact fun _ _ _ h => h
        case hwb9 => rfl
        case hyb9 => (intro w hSw; (try dsimp only at hSw); go_simp; first | done | with_reducible rfl)
        try simp only [Act.put, List.setIfInBounds_toArray, List.set_cons_zero, List.set_cons_succ]
        refine wpAnyG_take (i := 10) (oi := ?oib10) (v := ?vb10) ?hib10 rfl (by kernel_rfl) (by kernel_rfl) (by kernel_rfl) (by kernel_rfl) (by kernel_rfl) (by kernel_rfl) ?hQb10 (Or.inl ⟨?hwb10, ?hyb10⟩) ⟨q3, q4⟩ ⟨z0, z1⟩ ?_
        case hib10 => first | (simp only [List.getElem?_toArray, List.getElem?_cons_zero, List.getElem?_cons_succ]; done) | (simp only [List.getElem?_toArray, List.getElem?_cons_zero, List.getElem?_cons_succ]; rfl)
        case hQb10 => exact fun _ _ _ h => h
        case hwb10 => rfl
        case hyb10 => (intro w hSw; (try dsimp only at hSw); go_simp; first | done | with_reducible rfl)
        try simp only [Act.put, List.setIfInBounds_toArray, List.set_cons_zero, List.set_cons_succ]
        refine wpAnyG_takeW (i := 11) (oi := ?oib11) (v := ?vb11) ?hib11 (by kernel_rfl) (by kernel_rfl) (by kernel_rfl) (by kernel_rfl) ?hQb11 (Or.inl ⟨?hwb11, ?hyb11⟩) ⟨q3, q4⟩ (fun _ => ⟨z0, z1⟩) ?_
        case hib11 => first | (simp only [List.getElem?_toArray, List.getElem?_cons_zero, List.getElem?_cons_succ]; done) | (simp only [List.getElem?_toArray, List.getElem?_cons_zero, List.getElem?_cons_succ]; rfl)
        case hQb11 => exact fun _ _ _ h => h
        case hwb11 => rfl
        case hyb11 => (intro w hSw; (try dsimp only at hSw); go_simp; first | done | with_reducible rfl)
        try simp only [Act.put, List.setIfInBounds_toArray, List.set_cons_zero, List.set_cons_succ]
        refine wpAnyG_takeW (i := 12) (oi := ?oib12) (v := ?vb12) ?hib12 (by kernel_rfl) (by kernel_rfl) (by kernel_rfl) (by kernel_rfl) ?hQb12 (Or.inl ⟨?hwb12, ?hyb12⟩) ⟨q3, q4⟩ (fun _ => ⟨z0, z1⟩) ?_
        case hib12 => first | (simp only [List.getElem?_toArray, List.getElem?_cons_zero, List.getElem?_cons_succ]; done) | (simp only [List.getElem?_toArray, List.getElem?_cons_zero, List.getElem?_cons_succ]; rfl)
        case hQb12 => exact fun _ _ _ h => h
        case hwb12 => rfl
        case hyb12 => (intro w hSw; (try dsimp only at hSw); go_simp; first | done | with_reducible rfl)
        try simp only [Act.put, List.setIfInBounds_toArray, List.set_cons_zero, List.set_cons_succ]
        refine wpAnyG_takeW (i := 13) (oi := ?oib13) (v := ?vb13) ?hib13 (by kernel_rfl) (by kernel_rfl) (by kernel_rfl) (by kernel_rfl) ?hQb13 (Or.inl ⟨?hwb13, ?hyb13⟩) ⟨q3, q4⟩ (fun _ => ⟨z0, z1⟩) ?_
        case hib13 => first | (simp only [List.getElem?_toArray, List.getElem?_cons_zero, List.getElem?_cons_succ]; done) | (simp only [List.getElem?_toArray, List.getElem?_cons_zero, List.getElem?_cons_succ]; rfl)
        case hQb13 => exact fun _ _ _ h => h
        case hwb13 => rfl
        case hyb13 => (intro w hSw; (try dsimp only at hSw); go_simp; first | done | with_reducible rfl)
        try simp only [Act.put, List.setIfInBounds_toArray, List.set_cons_zero, List.set_cons_succ]
        refine wpAnyG_takeW (i := 14) (oi := ?oib14) (v := ?vb14) ?hib14 (by kernel_rfl) (by kernel_rfl) (by kernel_rfl) (by kernel_rfl) ?hQb14 (Or.inl ⟨?hwb14, ?hyb14⟩) ⟨q3, q4⟩ (fun _ => ⟨z0, z1⟩) ?_
        case hib14 => first | (simp only [List.getElem?_toArray, List.getElem?_cons_zero, List.getElem?_cons_succ]; done) | (simp only [List.getElem?_toArray, List.getElem?_cons_zero, List.getElem?_cons_succ]; rfl)
        case hQb14 => exact fun _ _ _ h => h
        case hwb14 => rfl
        case hyb14 => (intro w hSw; (try dsimp only at hSw); go_simp; first | done | with_reducible rfl)
        try simp only [Act.put, List.setIfInBounds_toArray, List.set_cons_zero, List.set_cons_succ]
        refine wpAnyG_takeW (i := 15) (oi := ?oib15) (v := ?vb15) ?hib15 (by kernel_rfl) (by kernel_rfl) (by kernel_rfl) (by kernel_rfl) ?hQb15 (Or.inl ⟨?hwb15, ?hyb15⟩) ⟨q3, q4⟩ (fun _ => ⟨z0, z1⟩) ?_
        case hib15 => first | (simp only [List.getElem?_toArray, List.getElem?_cons_zero, List.getElem?_cons_succ]; done) | (simp only [List.getElem?_toArray, List.getElem?_cons_zero, List.getElem?_cons_succ]; rfl)
        case hQb15 => exact fun _ _ _ h => h
        case hwb15 => rfl
        case hyb15 => (intro w hSw; (try dsimp only at hSw); go_simp; first | done | with_reducible rfl)
        try simp only [Act.put, List.setIfInBounds_toArray, List.set_cons_zero, List.set_cons_succ]
        refine wpAnyG_takeW (i := 16) (oi := ?oib16) (v := ?vb16) ?hib16 (by kernel_rfl) (by kernel_rfl) (by kernel_rfl) (by kernel_rfl) ?hQb16 (Or.inl ⟨?hwb16, ?hyb16⟩) ⟨q3, q4⟩ (fun _ => ⟨z0, z1⟩) ?_
        case hib16 => first | (simp only [List.getElem?_toArray, List.getElem?_cons_zero, List.getElem?_cons_succ]; done) | (simp only [List.getElem?_toArray, List.getElem?_cons_zero, List.getElem?_cons_succ]; rfl)
        case hQb16 => exact fun _ _ _ h => h
        case hwb16 => rfl
        case hyb16 => (intro w hSw; (try dsimp only at hSw); go_simp; first | done | with_reducible rfl)
        try simp only [Act.put, List.setIfInBounds_toArray, List.set_cons_zero, List.set_cons_succ]
        refine wpAnyG_one (i := 8) (o := ?oib8) (by kernel_rfl) ?hib8 (fun K' hK => ?_)
        case hib8 => first | (simp only [List.getElem?_toArray, List.getElem?_cons_zero, List.getElem?_cons_succ]; done) | (simp only [List.getElem?_toArray, List.getElem?_cons_zero, List.getElem?_cons_succ]; rfl)
        refine Stp.in_step (c := e0) (HST.out.below (by repeat (first | exact Below.refl _ _ | apply below_alloc | apply pw_below_drewN | apply below_drew1))) HXY.out.1 rfl (.tmp 110) (.tmp 116) rfl rfl rfl HLN.out.1 ?_
        intro A7 c7 w7 hs
        simp only [List.length_append] at hs
        obtain ⟨y0, y1, fy0, fy1⟩ := hs.cells
        have r3 := hs.read q3 HE.out
        have r4 := hs.read q4 HE.out
        have HS7 := Aside0.mk hs
        clear hs HST
        refine hK.out _ _ ⟨r3, r4⟩ (fun _ => ⟨y0, y1⟩) ?_
        clear hK K'
        try simp only [Act.put, List.setIfInBounds_toArray, List.set_cons_zero, List.set_cons_succ]
        refine wpAnyG_takeW (i := 18) (oi := ?oib18) (v := ?vb18) ?hib18 (by kernel_rfl) (by kernel_rfl) (by kernel_rfl) (by kernel_rfl) ?hQb18 (Or.inl ⟨?hwb18, ?hyb18⟩) ⟨r3, r4⟩ (fun _ => ⟨y0, y1⟩) ?_
        case hib18 => first | (simp only [List.getElem?_toArray, List.getElem?_cons_zero, List.getElem?_cons_succ]; done) | (simp only [List.getElem?_toArray, List.getElem?_cons_zero, List.getElem?_cons_succ]; rfl)
        case hQb18 => exact fun _ _ _ h => h
        case hwb18 => rfl
        case hyb18 => (intro w hSw; (try dsimp only at hSw); go_simp; first | done | with_reducible rfl)
        try simp only [Act.put, List.setIfInBounds_toArray, List.set_cons_zero, List.set_cons_succ]
        refine wpAnyG_one (i := 17) (o := ?oib17) (by kernel_rfl) ?hib17 (fun K' hK => ?_)
        case hib17 => first | (simp only [List.getElem?_toArray, List.getElem?_cons_zero, List.getElem?_cons_succ]; done) | (simp only [List.getElem?_toArray, List.getElem?_cons_zero, List.getElem?_cons_succ]; rfl)
        refine Stp.out_step (c := e1) HS7.out HXY.out.2 rfl (.tmp 119) (.tmp 125) rfl rfl rfl HLN.out.2 ?_
        intro A8 c8 w8 hs
        simp only [List.length_append] at hs
        obtain ⟨x0, x1, fx0, fx1⟩ := hs.cells
        have u3 := hs.read q3 HE.out
        have u4 := hs.read q4 HE.out
        have HS8 := Aside0.mk hs
        clear hs HS7
        refine hK.out _ _ ⟨u3, u4⟩ (fun _ => ⟨x0, x1⟩) ?_
        clear hK K'
        try simp only [Act.put, List.setIfInBounds_toArray, List.set_cons_zero, List.set_cons_succ]
        refine wpAnyG_one (i := 19) (o := ?oib19) (by kernel_rfl) ?hib19 (fun K' hK => ?_)
        case hib19 => first | (simp only [List.getElem?_toArray, List.getElem?_cons_zero, List.getElem?_cons_succ]; done) | (simp only [List.getElem?_toArray, List.getElem?_cons_zero, List.getElem?_cons_succ]; rfl)
        go_simp
        refine hK.out _ _ ?hTb19 (fun h => absurd h (by decide)) ?_
        case hTb19 => (refine ⟨?_, ?_⟩ <;> (go_simp; done))
        clear hK K'
        try simp only [Act.put, List.setIfInBounds_toArray, List.set_cons_zero, List.set_cons_succ]
        refine wpAnyG_takeW (i := 20) (oi := ?oib20) (v := ?vb20) ?hib20 (by kernel_rfl) (by kernel_rfl) (by kernel_rfl) (by kernel_rfl) ?hQb20 (Or.inl ⟨?hwb20, ?hyb20⟩) ?hTxb20 (fun h => absurd h (by decide)) ?_
        case hib20 => first | (simp only [List.getElem?_toArray, List.getElem?_cons_zero, List.getElem?_cons_succ]; done) | (simp only [List.getElem?_toArray, List.getElem?_cons_zero, List.getElem?_cons_succ]; rfl)
        case hQb20 => exact fun _ _ _ h => h
        case hwb20 => rfl
        case hyb20 => (intro w hSw; (try dsimp only at hSw); go_simp; first | done | with_reducible rfl)
        case hTxb20 => (refine ⟨?_, ?_⟩ <;> (go_simp; done))
        try simp only [Act.put, List.setIfInBounds_toArray, List.set_cons_zero, List.set_cons_succ]
        refine wpAnyG_one (i := 21) (o := ?oib21) (by kernel_rfl) ?hib21 (fun K' hK => ?_)
        case hib21 => first | (simp only [List.getElem?_toArray, List.getElem?_cons_zero, List.getElem?_cons_succ]; done) | (simp only [List.getElem?_toArray, List.getElem?_cons_zero, List.getElem?_cons_succ]; rfl)
        go_simp
        refine hK.out _ _ ?hTb21 (fun h => absurd h (by decide)) ?_
        case hTb21 => (refine ⟨?_, ?_⟩ <;> (go_simp; done))
        clear hK K'
        try simp only [Act.put, List.setIfInBounds_toArray, List.set_cons_zero, List.set_cons_succ]
        refine wpAnyG_done (by kernel_rfl) ?_ _
        go_wp2_with fail
        go_meet
        case rel =>
          have hF := HS8.out.put2
          have hG := told_done hF HREST.out.1 HREST.out.2
          rw [← HEQ.out.1, ← HEQ.out.2] at hG
          exact ⟨hG⟩
      case rest =>
        have HT3 := hcut
        clear HT2 HST HREST HXY HE q0 q3 q4 z0 z1 fz0 fz1
        go_wp2
        go_roundg gk
        case measure => omega
        case rel => exact ⟨k + 1, rfl, ⟨by omega, by omega⟩, HT3⟩
    · have hke : ds'.take k.toNat = ds' := List.take_of_length_le (by have := HMD.out; omega)
      have HT3 : Aside0 (Apart wr [Told gT (tI ++ flatI ds') (tO ++ flatO ds') (.slice A6 md c6) ds', Fed w gF (fI (l.take (i + 1).toNat)) (fO (l.take (i + 1).toNat)), Rt g s' ri' ro']) := ⟨by have h := HT2.out; rw [hke] at h; exact h⟩
      obtain ⟨A7, c7, A8, c8, hrt⟩ := told_reads (j := 0) HT3.out rfl
      obtain ⟨A9, c9, A10, c10, hrf⟩ := fed_reads (j := 1) HT3.out rfl
      have z0 := hrt.c0
      have z1 := hrt.c1
      have z2 := hrf.c0
      have z3 := hrf.c1
      obtain ⟨l1, l2, l3⟩ := HFD.out.1.lens HL.out.1
      have hsi := HFD.out.1.si
      have hso := HFD.out.1.so
      obtain ⟨nTI, eTI⟩ : ∃ m, (tI ++ flatI ds').length = m := ⟨_, rfl⟩
      obtain ⟨nTO, eTO⟩ : ∃ m, (tO ++ flatO ds').length = m := ⟨_, rfl⟩
      obtain ⟨nFI, eFI⟩ : ∃ m, (fI (l.take (i + 1).toNat)).length = m := ⟨_, rfl⟩
      obtain ⟨nFO, eFO⟩ : ∃ m, (fO (l.take (i + 1).toNat)).length = m := ⟨_, rfl⟩
      rw [eTI] at z0 l2
      rw [eTO] at z1 l3
      rw [eFI] at z2 l1 l2
      rw [eFO] at z3 l1 l3
      have HLEN := Aside0.mk (fun u (hu : Below wr.heap.size wr u) => len_any (j := 2) HT3.out rfl hu hsi hso (m := (nFI : Int) + nFO - nTI - nTO) (by omega))
      have b1 : nFI ≤ 1048576 := by omega
      have b2 : nFO ≤ 1048576 := by omega
      have b3 : nTI ≤ nFI := by omega
      have b4 : nTO ≤ nFO := by omega
      clear hrt hrf hsi hso eTI eTO eFI eFO l1 l2 l3 HT2 hke
      go_upto_region 20 with fail
      go_cut [146] (fun v146 wx => v146 = .bool false ∧ Aside0 (Below wr.heap.size wr wx))
      case first =>
        go_region_held3 (fun w' => w'.cell? ⟨gT, 0, none⟩ = some (.slice A7 nTI c7) ∧ w'.cell? ⟨gT, 1, none⟩ = some (.slice A8 nTO c8) ∧ w'.cell? ⟨gF, 0, none⟩ = some (.slice A9 nFI c9) ∧ w'.cell? ⟨gF, 1, none⟩ = some (.slice A10 nFO c10))
          (first | go_keep)
          (first | (go_at_call 14; refine (HLEN.out _ (by repeat (first | exact Below.refl _ _ | apply below_alloc | apply pw_below_drewN | apply below_drew1))).mono ?_; rintro e w5 ⟨rfl, hb⟩; have egT0 := pw_cell_below hb (a := ⟨gT, 0, none⟩) (v := .slice A7 nTI c7) (by go_simp); have egT1 := pw_cell_below hb (a := ⟨gT, 1, none⟩) (v := .slice A8 nTO c8) (by go_simp); have egF0 := pw_cell_below hb (a := ⟨gF, 0, none⟩) (v := .slice A9 nFI c9) (by go_simp); have egF1 := pw_cell_below hb (a := ⟨gF, 1, none⟩) (v := .slice A10 nFO c10) (by go_simp); have HB5 := Aside0.mk hb; clear hb))
        all_goals
          go_wp2_with fail
          go_meet
          case rel => exact ⟨by simp [wr3 b1 b2 b3 b4], ⟨below_step (by repeat (first | exact Below.refl _ _ | apply below_alloc | apply pw_below_drewN | apply below_drew1)) HB5.out⟩⟩
      case rest =>
        obtain ⟨rfl, HB5⟩ := hcut
        have HT4 := HT3.out.onto HB5.out
        clear HT3 HLEN z0 z1 z2 z3 HB5
        go_wp2_with fail
        exact HQ3.out _ _ _ _ _ _ _ _ _ _ _ _ _ _ _ _ _ _ _ _ _ _ _ _ _ _ _ _ _ _ _ _ _ _ _ _ _ _ _ _ _ _ _ _ _ _ _ _ _ _ _ _ _ _ _ _ _ _ _ _ _ _ _ _ _ _ _ _ _ _ _ _ _ _ _ _ _ _ _ _ _ _ _ _ _ _ _ _ _ _ _ _ _ _ _ _ _ _ _ _ _ _ _ _ _ _ _ _ _ _ _ _ _ _ _ _ _ _ _ _ _ _ _ _ _ HT4
end Go.Proofs.Yteklabhmmfklbaa
