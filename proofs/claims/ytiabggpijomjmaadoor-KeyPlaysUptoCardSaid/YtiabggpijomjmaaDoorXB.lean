import Derived.Test.YtiabggpijomjmaaDoorX3
import Derived.Test.YtiabggpijomjmaaDoorPureKeyBack
import Derived.Test.YtiabggpijomjmaaDoorWt
namespace Go.Proofs.YtiabggpijomjmaaDoor
open Go.RowKit Print Go.Proofs.YtiabggpijomjmaaDoorW.PrintWords Go.Proofs.YtiabggpijomjmaaDoorW.PrintLast Go.Proofs.YtiabggpijomjmaaDoorW.PrintMore
set_option linter.unusedVariables false
/-- Does a sum leave the numbers, by the document's word? -/
def xover (N n S : Int) : Bool := ((decide (0 < N) && decide (0 < n)) && decide (S < 0)) || ((decide (N < 0) && decide (n < 0)) && decide (0 ≤ S))
theorem xset_end {W w2 : World} {g : Nat} {okX : Nat → Prop} {ad : Addr} {n cap : Nat} {X : Xp} (h : XB W g okX (.slice (some ad) n cap) X) (hb : Below W.heap.size W w2) (i : Nat) (hi : i < X.length) (y : Int) :
    w2.frozen? ⟨(ad.add (i * 2)).block, (ad.add (i * 2)).off + 1, none⟩ = false ∧ XPost W g okX (X.set i ⟨(rd_T84 X i).f0, y⟩) (w2.setCell ⟨(ad.add (i * 2)).block, (ad.add (i * 2)).off + 1, none⟩ (.int .i64 y)) := by
  have h2 := h.below hb
  have hR := h2.rows
  have hn : n = X.length := (Kd.N_reads' hR).1
  obtain ⟨g9, cap9, he, _, hg9, _⟩ := Kd.N_form hR (by omega)
  injection he with he _ _
  injection he with he
  subst he
  obtain ⟨c, hcl, hF, hc0, hfr⟩ := Kd.N_elem hR z84 (i : Int) (by omega) (by omega)
  rw [Int.toNat_natCast] at hc0 hfr
  have hF' : Kd.FK k84 w2 (fun k => okX k ∧ k ≠ g9) (rd_T84 X i) c := hF
  obtain ⟨A0, c0, rfl, l0, g0⟩ := k84_openF hF'
  have e1 : ((⟨g9, 0, none⟩ : Addr).add (i * 2)) = ⟨g9, i * 2, none⟩ := add_plain _ _
  have hok : okX g9 := hR.1 g9 rfl
  obtain ⟨h3, h4⟩ := Kd.N_seg hR (i : Int) (by omega) (by omega) (c := [.slice A0 (rd_T84 X i).f0.length c0, .int .i64 (rd_T84 X i).f1]) (seg := [.int .i64 y]) (j := 1) rfl (by rw [Int.toNat_natCast]; exact hc0) (Nat.le_refl _) (x' := ⟨(rd_T84 X i).f0, y⟩) (k84_mkF w2 (fun k => okX k ∧ k ≠ g9) ⟨(rd_T84 X i).f0, y⟩ l0 g0) (fun k hk => hk)
  rw [Int.toNat_natCast] at h3 h4
  rw [e1]
  have es : w2.setCells g9 (i * k84.sz + 1) [.int .i64 y] = w2.setCell ⟨g9, i * 2 + 1, none⟩ (.int .i64 y) := by first | rfl | simp [World.setCells, World.setCell]
  rw [es] at h3 h4
  have hne : g9 ≠ g := fun e => h.gX (e ▸ hok)
  have k3 : K3 W (w2.setCell ⟨g9, i * 2 + 1, none⟩ (.int .i64 y)) (fun k => k = g ∨ okX k) := (K3.of_below hb _).setCell (p := ⟨g9, i * 2 + 1, none⟩) (.inl (.inr hok)) _
  have hsz : (w2.setCell ⟨g9, i * 2 + 1, none⟩ (.int .i64 y)).heap.size = w2.heap.size := by simp [World.setCell]
  exact ⟨hfr 1, okX, _, ⟨blk_far h2.at_ (p := ⟨g9, i * 2 + 1, none⟩) (fun e => hne e.symm) _, h3, h.gX, fun k hk => by rw [hsz]; exact h2.lX k hk⟩, k3, fun k hk => .inl hk⟩
set_option maxHeartbeats 4000000 in
set_option maxRecDepth 100000 in
theorem xadd_old {g k : Nat} {okX : Nat → Prop} {v : Value} {X : Xp} {r : List S53} {s : ByteArray} {i : Nat} (A : Option Addr) (m c : Nat) (n : Int) (W : World) (hX : XB W g okX v X) (hr : SameA W X A m c r) (h : marqueeref04_Encode.f k r = some (s, 0)) (hl : X.length ≤ 1099511627776) (hx : xidx X r = some i) :
    Calls Tryd.prog 15 #[.pointer (some ⟨g, 0, none⟩), .slice A m c, .int .i64 n] W fun e w' =>
      (xover (rd_T84 X i).f1 n (wrap64 ((rd_T84 X i).f1 + n)) = true → e = .returned (.tuple #[.int .i64 0, .int .i64 20]) ∧ Below W.heap.size W w') ∧
      (¬ xover (rd_T84 X i).f1 n (wrap64 ((rd_T84 X i).f1 + n)) = true → e = .returned (.tuple #[.int .i64 (wrap64 ((rd_T84 X i).f1 + n)), .int .i64 0]) ∧ XPost W g okX (X.set i ⟨(rd_T84 X i).f0, wrap64 ((rd_T84 X i).f1 + n)⟩) w') := by
  have hu42 := Tryd.underlying42
  have hu84 := Tryd.underlying84
  have hlt := xidx_lt hx
  obtain ⟨g9, cap9, rfl, _⟩ := Kd.N_form hX.rows (by omega)
  have HE := Aside0.mk (REnc hr h)
  have HF := Aside0.mk (fun w1 (hb : Below W.heap.size W w1) => by have := find_any A m c w1 (hX.below hb) (hr.below hb) hl; rw [hx] at this; exact this)
  have HX := Aside0.mk hX
  have hj0 : (0 : Int) ≤ (i : Int) := by omega
  have hj1 : (i : Int) < (X.length : Int) := by omega
  have hd : decide ((i : Int) < 0) = false := decide_eq_false (by omega)
  have HLT := Aside0.mk hlt
  have had : ∃ ad : Addr, ad = ⟨g9, 0, none⟩ := ⟨_, rfl⟩
  obtain ⟨ad, hade⟩ := had
  rw [← hade] at HX
  clear hade hX hr h hl hx hlt
  go_enter Tryd.func15, Tryd.ntmps15
  go_upto_region 9 with (first
    | (go_at_call 8; refine HE.out.mono ?_; rintro e w1 ⟨rfl, hb⟩; have HB1 := Aside0.mk hb; clear hb)
    | (go_at_call 31; refine (HF.out _ HB1.out).mono ?_; rintro e w2 ⟨rfl, hb⟩; simp only [plc]; have HB2 := Aside0.mk (below_step HB1.out hb); clear hb))
  have b0 := (HX.out.at_.below HB2.out).cell
  obtain ⟨A0, c0, y0, y1, hl0, hF0⟩ := at_N84 (Kd.N_below HX.out.rows HB2.out) i HLT.out
  clear hF0 hl0 y0
  obtain ⟨N, hN⟩ : ∃ N, (rd_T84 X i).f1 = N := ⟨_, rfl⟩
  rw [hN] at y1
  obtain ⟨S, hS⟩ : ∃ S, wrap64 (N + n) = S := ⟨_, rfl⟩
  have HN := Aside0.mk hN
  have HS := Aside0.mk hS
  have hXE := xset_end HX.out HB2.out i HLT.out S
  have f1 := hXE.1
  have HXE := Aside0.mk hXE.2
  clear hN hXE
  go_upto_region 10 with fail
  rw [hS]
  clear hS
  go_cut [86] (fun v86 wx => v86 = .bool (xover N n S) ∧ wx = w2)
  case first =>
    obtain ⟨b1, h1⟩ : ∃ b, decide (0 < N) = b := ⟨_, rfl⟩
    obtain ⟨b2, h2⟩ : ∃ b, decide (0 < n) = b := ⟨_, rfl⟩
    obtain ⟨b3, h3⟩ : ∃ b, decide (S < 0) = b := ⟨_, rfl⟩
    obtain ⟨b4, h4⟩ : ∃ b, decide (N < 0) = b := ⟨_, rfl⟩
    obtain ⟨b5, h5⟩ : ∃ b, decide (n < 0) = b := ⟨_, rfl⟩
    obtain ⟨b6, h6⟩ : ∃ b, decide (0 ≤ S) = b := ⟨_, rfl⟩
    have hxo : xover N n S = (((b1 && b2) && b3) || ((b4 && b5) && b6)) := by unfold xover; rw [h1, h2, h3, h4, h5, h6]
    have HXO := Aside0.mk hxo
    clear hxo
    have c1 : b1 = true → b4 = true → False := fun e1 e4 => by subst e1 e4; have := of_decide_eq_true h1; have := of_decide_eq_true h4; omega
    have c2 : b2 = true → b5 = true → False := fun e1 e4 => by subst e1 e4; have := of_decide_eq_true h2; have := of_decide_eq_true h5; omega
    have c3 : b6 = !b3 := by
      cases b3
      · have := of_decide_eq_false h3; rw [← h6]; exact decide_eq_true (by omega)
      · have := of_decide_eq_true h3; rw [← h6]; exact decide_eq_false (by omega)
    subst c3
    cases b1 <;> cases b4 <;> first | exact absurd rfl (fun e => c1 rfl rfl) | skip
    all_goals cases b2 <;> cases b5 <;> first | exact absurd rfl (fun e => c2 rfl rfl) | skip
    all_goals clear c1 c2
    all_goals cases b3
    all_goals simp only [Bool.not_true, Bool.not_false] at h6
    all_goals go_wp2_with fail
    all_goals go_meet
    all_goals exact ⟨by rw [HXO.out]; rfl, rfl⟩
  case rest =>
    obtain ⟨rfl, rfl⟩ := hcut
    cases hxo : xover N n S with
    | true =>
      go_wp2_with fail
      go_ret2
      rw [HN.out, HS.out]
      exact ⟨fun _ => ⟨rfl, HB2.out⟩, fun hh => absurd hxo hh⟩
    | false =>
      go_wp2_with fail
      go_ret2
      rw [HN.out, HS.out]
      exact ⟨fun hh => absurd (hxo.symm.trans hh) (by simp), fun _ => ⟨rfl, HXE.out⟩⟩
end Go.Proofs.YtiabggpijomjmaaDoor
namespace Go.Proofs.YtiabggpijomjmaaDoor
open Go.RowKit Print Go.Proofs.YtiabggpijomjmaaDoorW.PrintWords Go.Proofs.YtiabggpijomjmaaDoorW.PrintLast Go.Proofs.YtiabggpijomjmaaDoorW.PrintMore
set_option linter.unusedVariables false
set_option maxHeartbeats 4000000 in
set_option maxRecDepth 100000 in
theorem xremove_none {g : Nat} {okX : Nat → Prop} {v : Value} {X : Xp} {r : List S53} (A : Option Addr) (m c : Nat) (W : World) (hX : XB W g okX v X) (hr : SameA W X A m c r) (hl : X.length ≤ 1099511627776) (hx : xidx X r = none) :
    Calls Tryd.prog 17 #[.pointer (some ⟨g, 0, none⟩), .slice A m c] W fun e w' => e = .returned (.bool false) ∧ Below W.heap.size W w' := by
  have HF := Aside0.mk (by have := find_any A m c W hX hr hl; rw [hx] at this; exact this)
  have hd : decide ((-1 : Int) ≥ 0) = false := by decide
  have hd' : decide ((0 : Int) ≤ -1) = false := by decide
  clear hX hr hl hx
  go_enter Tryd.func17, Tryd.ntmps17
  go_wp2_with (first
    | (go_at_call 31; refine HF.out.mono ?_; rintro e w2 ⟨rfl, hb⟩; simp only [plc]; have HB2 := Aside0.mk hb; clear hb))
  go_ret
  exact ⟨rfl, HB2.out⟩
set_option maxHeartbeats 4000000 in
set_option maxRecDepth 100000 in
theorem xremove_some {g : Nat} {okX : Nat → Prop} {v : Value} {X : Xp} {r : List S53} {i : Nat} (A : Option Addr) (m c : Nat) (W : World) (hX : XB W g okX v X) (hr : SameA W X A m c r) (hl : X.length ≤ 1099511627776) (hx : xidx X r = some i) :
    Calls Tryd.prog 17 #[.pointer (some ⟨g, 0, none⟩), .slice A m c] W fun e w' => e = .returned (.bool true) ∧ XPost W g okX (X.take i ++ X.drop (i + 1)) w' := by
  have hu42 := Tryd.underlying42
  have hu84 := Tryd.underlying84
  have hlt := xidx_lt hx
  obtain ⟨g9, cap9, rfl, _⟩ := Kd.N_form hX.rows (by omega)
  have HF := Aside0.mk (by have := find_any A m c W hX hr hl; rw [hx] at this; exact this)
  have HX := Aside0.mk hX
  have HL := Aside0.mk hl
  have HLT := Aside0.mk hlt
  have hj0 : (0 : Int) ≤ (i : Int) := by omega
  have hj1 : (i : Int) < (X.length : Int) := by omega
  have hcap : X.length ≤ cap9 := (Kd.N_reads' hX.rows).2.1
  have hd : decide ((i : Int) ≥ 0) = true := decide_eq_true (by omega)
  have hd' : decide ((0 : Int) ≤ (i : Int)) = true := decide_eq_true (by omega)
  have HWN := Aside0.mk (show wrap64 ((i : Int) + 1) = ((i + 1 : Nat) : Int) from wrap_nat (by omega))
  clear hX hr hl hx
  go_enter Tryd.func17, Tryd.ntmps17
  go_upto_region 4 with (first
    | (go_at_call 31; refine HF.out.mono ?_; rintro e w2 ⟨rfl, hb⟩; simp only [plc]; have HB2 := Aside0.mk hb; clear hb))
  have b0 := (HX.out.at_.below HB2.out).cell
  have hN2 := Kd.N_below HX.out.rows HB2.out
  have hF1 := Kd.F_take (m := i) (Kd.N_F hN2) (by omega)
  rw [show (X.take i).length = i by rw [List.length_take]; omega] at hF1
  have HF1 := Aside0.mk hF1
  have HXL : Aside0 ((([] : Xp).length + i) * 32 ≤ 140737488355328) := ⟨by have := HL.out; simp; omega⟩
  have HOK : Aside0 (∀ k, okX k → (okX k ∨ W.heap.size ≤ k) ∧ some k ≠ (Value.slice none 0 0).ownBlock) := ⟨fun k hk => ⟨.inl hk, by simp [Value.ownBlock]⟩⟩
  clear hN2 hF1
  have HTL : Aside0 ((X.take i).length = i) := ⟨by rw [List.length_take]; have := HLT.out; omega⟩
  go_upto_region 5 with (first
    | ((with_reducible refine gate_builtin (b := .append) (xs := #[.tmp 12, .tmp 18]) rfl ?_); at_builtin; refine Kd.N_append_rows k84 (W := w2) (w0 := w2) 0 rfl (.tmp 12) (.tmp 18) 40 84 (.agg #[.slice none 0 0, .int .i64 0]) 32 rfl Tryd.underlying40 info84 rfl dec84 dec32 (.slice none 0 0) [] (X.take i) (some ⟨g9, 0, none⟩) i cap9 (fun k => okX k ∨ W.heap.size ≤ k) okX rfl rfl (Kd.N_nil _ _ _ _ _) HF1.out HOK.out ?_ (Below.refl _ _) (Nat.zero_le _) HXL.out ?_; (· exact fun k hk => .inr (Nat.le_trans (below_size HB2.out) hk)); intro v3 w3 ho hb hg hat; rw [List.nil_append] at ho; obtain ⟨A3, c3, rfl⟩ := Kd.N_slice ho; rw [HTL.out] at ho hat ⊢; have HO3 := Aside0.mk ho; have HB3 := Aside0.mk (below_grown HB2.out hg (fun k hk => by simp [Value.ownBlock] at hk)); have HAT3 := Aside0.mk hat; have b3 := (HX.out.at_.below HB3.out).cell; clear ho hb hg hat))
  have hwn := HWN.out
  have hti : ((i : Int) + 1).toNat = i + 1 := by omega
  have hle1 : i + 1 ≤ X.length := hlt
  have hle2 : X.length ≤ cap9 := hcap
  have hF2 := Kd.F_cut (m := i + 1) (c := cap9) (Kd.N_F (Kd.N_below HX.out.rows HB3.out)) (by omega) hcap
  rw [List.length_drop] at hF2
  have HF2 := Aside0.mk hF2
  have HXL2 : Aside0 (((X.take i).length + (X.length - (i + 1))) * 32 ≤ 140737488355328) := ⟨by rw [HTL.out]; have := HL.out; omega⟩
  have HOK2 : Aside0 (∀ k, okX k → (okX k ∨ W.heap.size ≤ k) ∧ some k ≠ (Value.slice A3 i c3).ownBlock) := ⟨fun k hk => ⟨.inl hk, fun e => by
    rcases HAT3.out with h' | ⟨b, h1, h2⟩
    · rw [h'] at e; simp [Value.ownBlock] at e
    · rw [h1] at e; injection e with e; have := HX.out.lX k hk; have := below_size HB2.out; omega⟩⟩
  clear hF2
  have HLD : Aside0 ((X.take i ++ X.drop (i + 1)).length = X.length - 1) := ⟨by rw [List.length_append, HTL.out, List.length_drop]; omega⟩
  have HOW : Aside0 (∀ k, (Value.slice A3 i c3).ownBlock = some k → W.heap.size ≤ k) := ⟨fun k hk => by
    rcases HAT3.out with h' | ⟨b, h1, h2⟩
    · rw [h'] at hk; simp [Value.ownBlock] at hk
    · rw [h1] at hk; injection hk with hk; have := below_size HB2.out; omega⟩
  by_cases hcc : cap9 = i + 1
  · have HF3 : Aside0 (Kd.F k84 w3 okX (some ⟨g9, 0, none⟩) (X.length - (i + 1)) (X.drop (i + 1))) := ⟨by have := HF2.out; rw [if_pos hcc] at this; exact this⟩
    clear HF2
    go_wp2_with (first
      | ((with_reducible refine gate_builtin (b := .append) (xs := #[.tmp 21, .tmp 28]) rfl ?_); at_builtin; refine Kd.N_append_rows k84 (W := w3) (w0 := w3) 0 rfl (.tmp 21) (.tmp 28) 40 84 (.agg #[.slice none 0 0, .int .i64 0]) 32 rfl Tryd.underlying40 info84 rfl dec84 dec32 (.slice A3 i c3) (X.take i) (X.drop (i + 1)) _ (X.length - (i + 1)) _ (fun k => okX k ∨ W.heap.size ≤ k) okX rfl rfl HO3.out HF3.out HOK2.out ?_ (Below.refl _ _) (Nat.zero_le _) HXL2.out ?_; (· exact fun k hk => .inr (Nat.le_trans (below_size HB3.out) hk)); intro v4 w4 ho hb hg hat; have hl4 := HLD.out; obtain ⟨A4, c4, rfl⟩ := Kd.N_slice ho; rw [hl4] at ho ⊢; have HO4 := Aside0.mk ho; have HB4 := Aside0.mk (below_grown HB3.out hg HOW.out); have y4 := (HX.out.at_.below HB4.out).cell; have q4 := (HX.out.at_.below HB4.out).frozen 0; clear ho hb hg hat hl4))
    go_ret
    exact ⟨rfl, xadd_end HX.out HB4.out HO4.out (grown_of_below (Below.refl _ _) _)⟩
  · have HF3 : Aside0 (Kd.F k84 w3 okX (some ⟨g9, (i + 1) * 2, none⟩) (X.length - (i + 1)) (X.drop (i + 1))) := ⟨by
      have := HF2.out
      rw [if_neg hcc] at this
      rw [← add_plain g9 ((i + 1) * 2)]
      exact this⟩
    clear HF2
    go_wp2_with (first
      | ((with_reducible refine gate_builtin (b := .append) (xs := #[.tmp 21, .tmp 28]) rfl ?_); at_builtin; refine Kd.N_append_rows k84 (W := w3) (w0 := w3) 0 rfl (.tmp 21) (.tmp 28) 40 84 (.agg #[.slice none 0 0, .int .i64 0]) 32 rfl Tryd.underlying40 info84 rfl dec84 dec32 (.slice A3 i c3) (X.take i) (X.drop (i + 1)) _ (X.length - (i + 1)) _ (fun k => okX k ∨ W.heap.size ≤ k) okX rfl rfl HO3.out HF3.out HOK2.out ?_ (Below.refl _ _) (Nat.zero_le _) HXL2.out ?_; (· exact fun k hk => .inr (Nat.le_trans (below_size HB3.out) hk)); intro v4 w4 ho hb hg hat; have hl4 := HLD.out; obtain ⟨A4, c4, rfl⟩ := Kd.N_slice ho; rw [hl4] at ho ⊢; have HO4 := Aside0.mk ho; have HB4 := Aside0.mk (below_grown HB3.out hg HOW.out); have y4 := (HX.out.at_.below HB4.out).cell; have q4 := (HX.out.at_.below HB4.out).frozen 0; clear ho hb hg hat hl4))
    go_ret
    exact ⟨rfl, xadd_end HX.out HB4.out HO4.out (grown_of_below (Below.refl _ _) _)⟩
end Go.Proofs.YtiabggpijomjmaaDoor
namespace Go.Proofs.YtiabggpijomjmaaDoor
open Go.RowKit Print Go.Proofs.YtiabggpijomjmaaDoorW.PrintWords Go.Proofs.YtiabggpijomjmaaDoorW.PrintLast Go.Proofs.YtiabggpijomjmaaDoorW.PrintMore
set_option linter.unusedVariables false
/-! ### The plain law of the two maps -/
def pc (r : List S53) : S76 := ⟨(encV r).1, r.length⟩
def pr (e : S84) : S76 × Int := (pc e.f0, e.f1)
/-- A row that comes in. -/
structure RI (r : List S53) : Prop where
  in_ : ∀ x ∈ r, in64 x
  small : muS mu53 r ≤ 1048576
abbrev OkR (r : List S53) : Prop := ∀ x ∈ r, okV x.f0 x.f1 x.f2 = true
def n64 (n : Int) : Prop := -9223372036854775808 ≤ n ∧ n ≤ 9223372036854775807
structure VX (X : Xp) : Prop where
  ok : ∀ e ∈ X, OkR e.f0
  ri : ∀ e ∈ X, RI e.f0
  nums : ∀ e ∈ X, n64 e.f1
  dist : X.Pairwise (fun a b => a.f0 ≠ b.f0)
theorem VX.nil : VX [] := ⟨by simp, by simp, by simp, List.Pairwise.nil⟩
theorem pc_inj {a b : List S53} (ha : OkR a) (ia : RI a) (hb : OkR b) (ib : RI b) (h : pc a = pc b) : a = b := by
  have h1 : (encV a).1 = (encV b).1 := congrArg S76.f0 h
  rw [encV_ok a ha, encV_ok b hb] at h1
  have e1 := decV_enc a ha ia.in_
  have e2 := decV_enc b hb ib.in_
  have h2 : strOfNums (allB a) = strOfNums (allB b) := h1
  rw [h2] at e1
  exact congrArg Prod.fst (e1.symm.trans e2)
theorem eq_pc {a b : List S53} (ha : OkR a) (ia : RI a) (hb : OkR b) (ib : RI b) : eq76 (pc a) (pc b) = rowV a b := by
  rw [Bool.eq_iff_iff, eq76_iff, rowV_iff]
  exact ⟨pc_inj ha ia hb ib, fun h => by rw [h]⟩
theorem look_map : ∀ {X : Xp} {r : List S53}, VX X → OkR r → RI r → look (X.map pr) (pc r) = (xidx X r).map fun i : Nat => (rd_T84 X (i : Int)).f1
  | [], _, _, _, _ => rfl
  | e :: X, r, h, hr, ir => by
    have h' : VX X := ⟨fun x hx => h.ok x (List.mem_cons_of_mem _ hx), fun x hx => h.ri x (List.mem_cons_of_mem _ hx), fun x hx => h.nums x (List.mem_cons_of_mem _ hx), (List.pairwise_cons.1 h.dist).2⟩
    have ih := look_map h' hr ir
    have he : eq76 (pr e).1 (pc r) = rowV e.f0 r := eq_pc (h.ok e (List.mem_cons_self ..)) (h.ri e (List.mem_cons_self ..)) hr ir
    simp only [List.map_cons, look, xidx, he]
    by_cases c : rowV e.f0 r = true
    · rw [if_pos c, if_pos c]; rfl
    · rw [if_neg c, if_neg c, ih, Option.map_map]
      congr 1
def xput (X : Xp) (r : List S53) (S : Int) : Xp := match xidx X r with
  | none => X ++ [⟨r, S⟩]
  | some i => X.set i ⟨(rd_T84 X i).f0, S⟩
def xrem (X : Xp) (r : List S53) : Xp := match xidx X r with
  | none => X
  | some i => X.take i ++ X.drop (i + 1)
theorem xput_cons (e : S84) (X : Xp) (r : List S53) (S : Int) : xput (e :: X) r S = if rowV e.f0 r = true then ⟨e.f0, S⟩ :: X else e :: xput X r S := by
  unfold xput
  simp only [xidx]
  by_cases c : rowV e.f0 r = true
  · rw [if_pos c, if_pos c]; rfl
  · rw [if_neg c, if_neg c]
    cases hx : xidx X r with
    | none => rfl
    | some i =>
      simp only [Option.map_some]
      rw [rd_succ]
      rfl
theorem xrem_cons (e : S84) (X : Xp) (r : List S53) : xrem (e :: X) r = if rowV e.f0 r = true then X else e :: xrem X r := by
  unfold xrem
  simp only [xidx]
  by_cases c : rowV e.f0 r = true
  · rw [if_pos c, if_pos c]; rfl
  · rw [if_neg c, if_neg c]
    cases hx : xidx X r with
    | none => rfl
    | some i => rfl
theorem VX.tl {e : S84} {X : Xp} (h : VX (e :: X)) : VX X := ⟨fun x hx => h.ok x (List.mem_cons_of_mem _ hx), fun x hx => h.ri x (List.mem_cons_of_mem _ hx), fun x hx => h.nums x (List.mem_cons_of_mem _ hx), (List.pairwise_cons.1 h.dist).2⟩
theorem VX.hd {e : S84} {X : Xp} (h : VX (e :: X)) {r : List S53} (hr : OkR r) (ir : RI r) : eq76 (pr e).1 (pc r) = rowV e.f0 r := eq_pc (h.ok e (List.mem_cons_self ..)) (h.ri e (List.mem_cons_self ..)) hr ir
theorem put_map : ∀ {X : Xp} {r : List S53} {S : Int}, VX X → OkR r → RI r → put (X.map pr) (pc r) S = (xput X r S).map pr
  | [], _, _, _, _, _ => rfl
  | e :: X, r, S, h, hr, ir => by
    have ih := put_map (S := S) h.tl hr ir
    rw [xput_cons]
    simp only [List.map_cons, put, h.hd hr ir]
    by_cases c : rowV e.f0 r = true
    · rw [if_pos c, if_pos c]; rfl
    · rw [if_neg c, if_neg c, ih]; rfl
theorem xidx_not {X : Xp} {r : List S53} (h : ∀ e ∈ X, e.f0 ≠ r) : xidx X r = none := by
  induction X with
  | nil => rfl
  | cons e X ih =>
    have e0 : rowV e.f0 r = false := by
      cases c : rowV e.f0 r
      · rfl
      · exact absurd ((rowV_iff _ _).1 c) (h e (List.mem_cons_self ..))
    simp [xidx, e0, ih (fun x hx => h x (List.mem_cons_of_mem _ hx))]
theorem drop_map : ∀ {X : Xp} {r : List S53}, VX X → OkR r → RI r → drop (X.map pr) (pc r) = (xrem X r).map pr
  | [], _, _, _, _ => rfl
  | e :: X, r, h, hr, ir => by
    have ih := drop_map h.tl hr ir
    rw [xrem_cons]
    have hd : drop ((e :: X).map pr) (pc r) = if rowV e.f0 r = true then drop (X.map pr) (pc r) else pr e :: drop (X.map pr) (pc r) := by
      show List.filter _ (pr e :: X.map pr) = _
      rw [List.filter_cons, h.hd hr ir]
      by_cases c : rowV e.f0 r = true
      · rw [c]; rfl
      · rw [Bool.not_eq_true] at c; rw [c]; rfl
    rw [hd]
    by_cases c : rowV e.f0 r = true
    · rw [if_pos c, if_pos c]
      have he : e.f0 = r := (rowV_iff _ _).1 c
      refine drop_none _ _ ?_
      rw [look_map h.tl hr ir, xidx_not (fun x hx hx' => (List.pairwise_cons.1 h.dist).1 x hx (he.trans hx'.symm))]
      rfl
    · rw [if_neg c, if_neg c, ih]; rfl
theorem xput_rows : ∀ {X : Xp} {r : List S53} {S : Int} {e : S84}, e ∈ xput X r S → (e ∈ X ∨ ((e.f0 = r ∨ ∃ x ∈ X, e.f0 = x.f0) ∧ e.f1 = S))
  | [], r, S, e, h => by
    have h' : e = ⟨r, S⟩ := by simpa [xput, xidx] using h
    subst h'
    exact .inr ⟨.inl rfl, rfl⟩
  | x :: X, r, S, e, h => by
    rw [xput_cons] at h
    by_cases c : rowV x.f0 r = true
    · rw [if_pos c] at h
      rcases List.mem_cons.1 h with rfl | h
      · exact .inr ⟨.inr ⟨x, List.mem_cons_self .., rfl⟩, rfl⟩
      · exact .inl (List.mem_cons_of_mem _ h)
    · rw [if_neg c] at h
      rcases List.mem_cons.1 h with rfl | h
      · exact .inl (List.mem_cons_self ..)
      · rcases xput_rows h with h | ⟨h | ⟨y, hy, e'⟩, h2⟩
        · exact .inl (List.mem_cons_of_mem _ h)
        · exact .inr ⟨.inl h, h2⟩
        · exact .inr ⟨.inr ⟨y, List.mem_cons_of_mem _ hy, e'⟩, h2⟩
theorem xput_dist : ∀ {X : Xp} {r : List S53} {S : Int}, X.Pairwise (fun a b => a.f0 ≠ b.f0) → (xput X r S).Pairwise (fun a b => a.f0 ≠ b.f0)
  | [], r, S, _ => by simp [xput, xidx]
  | x :: X, r, S, h => by
    obtain ⟨h1, h2⟩ := List.pairwise_cons.1 h
    rw [xput_cons]
    by_cases c : rowV x.f0 r = true
    · rw [if_pos c]; exact List.pairwise_cons.2 ⟨h1, h2⟩
    · rw [if_neg c]
      refine List.pairwise_cons.2 ⟨fun e he => ?_, xput_dist h2⟩
      rcases xput_rows he with he | ⟨he | ⟨y, hy, e'⟩, _⟩
      · exact h1 e he
      · exact fun e' => c ((rowV_iff _ _).2 (e'.trans he))
      · rw [e']; exact h1 y hy
theorem VX.put {X : Xp} (h : VX X) {r : List S53} {S : Int} (hr : OkR r) (ir : RI r) (hS : n64 S) : VX (xput X r S) :=
  ⟨fun e he => (xput_rows he).elim (h.ok e) (fun h2 => h2.1.elim (fun e' => by rw [e']; exact hr) (fun ⟨y, hy, e'⟩ => by rw [e']; exact h.ok y hy)),
   fun e he => (xput_rows he).elim (h.ri e) (fun h2 => h2.1.elim (fun e' => by rw [e']; exact ir) (fun ⟨y, hy, e'⟩ => by rw [e']; exact h.ri y hy)),
   fun e he => (xput_rows he).elim (h.nums e) (fun h2 => by rw [h2.2]; exact hS), xput_dist h.dist⟩
theorem xrem_sub : ∀ (X : Xp) (r : List S53), (xrem X r).Sublist X
  | [], _ => by simp [xrem, xidx]
  | e :: X, r => by
    rw [xrem_cons]
    by_cases c : rowV e.f0 r = true
    · rw [if_pos c]; exact List.sublist_cons_self ..
    · rw [if_neg c]; exact (xrem_sub X r).cons_cons e
theorem VX.rem {X : Xp} (h : VX X) (r : List S53) : VX (xrem X r) :=
  ⟨fun e he => h.ok e ((xrem_sub X r).subset he), fun e he => h.ri e ((xrem_sub X r).subset he), fun e he => h.nums e ((xrem_sub X r).subset he), h.dist.sublist (xrem_sub X r)⟩
theorem xput_len : ∀ (X : Xp) (r : List S53) (S : Int), (xput X r S).length ≤ X.length + 1
  | [], _, _ => by simp [xput, xidx]
  | e :: X, r, S => by
    rw [xput_cons]
    by_cases c : rowV e.f0 r = true
    · rw [if_pos c]; simp
    · rw [if_neg c]; have := xput_len X r S; simp; omega
theorem xidx_bad {X : Xp} {r : List S53} (h : VX X) (hr : ¬ OkR r) : xidx X r = none := xidx_not (fun e he e' => hr (e' ▸ h.ok e he))
theorem w64_in (x : Int) : n64 (wrap64 x) := by unfold n64 wrap64; omega
theorem over_eq {N n : Int} (hN : n64 N) (hn : n64 n) : over N n (wrap64 (N + n)) = xover N n (wrap64 (N + n)) := by
  unfold n64 at hN hn
  have hw : wrap64 (N + n) = N + n ∨ (wrap64 (N + n) = N + n - 18446744073709551616 ∧ 9223372036854775807 < N + n) ∨ (wrap64 (N + n) = N + n + 18446744073709551616 ∧ N + n < -9223372036854775808) := by unfold wrap64; omega
  generalize wrap64 (N + n) = S at *
  rw [Bool.eq_iff_iff]
  simp only [over, xover, Bool.and_eq_true, Bool.or_eq_true, decide_eq_true_eq, bne_iff_ne, beq_iff_eq, ne_eq, decide_eq_decide]
  omega
end Go.Proofs.YtiabggpijomjmaaDoor
namespace Go.Proofs.YtiabggpijomjmaaDoor
open Go.RowKit Print Go.Proofs.YtiabggpijomjmaaDoorW.PrintWords Go.Proofs.YtiabggpijomjmaaDoorW.PrintLast Go.Proofs.YtiabggpijomjmaaDoorW.PrintMore
set_option linter.unusedVariables false
variable {w w0 W : World} {L : List Asr}
theorem old_below (h : Apart W L) (hm : Old w0 ∈ L) : Below w0.heap.size w0 W := by
  obtain ⟨F, hO, _⟩ := Sep.mem h hm
  exact hO.2
theorem Mm.up {g n : Nat} {l : Mp} {U : Nat → Prop} (h : Sep w (Mm g n l :: L) U) : Sep w (Mm g (n + 1) l :: L) U := by
  obtain ⟨F, ⟨b, okS, v, nx, D, hB, hF⟩, hd, hl⟩ := h
  exact ⟨F, ⟨b, okS, v, nx, D, ⟨hB.at_, hB.map.mono (Nat.le_succ _), hB.tie, hB.rows, hB.gb, hB.gS, hB.bS, hB.lS⟩, hF⟩, hd, hl⟩
theorem xm_step {F okX : Nat → Prop} {g : Nat} {X' : Xp} {w' : World} (hF : ∀ k, F k ↔ (k = g ∨ okX k)) (hl : Sep W L F) (ha : XPost W g okX X' w') : Apart w' (Xm g X' :: L) := by
  obtain ⟨okX', v', hB', hK, hS'⟩ := ha
  refine ⟨fun k => k = g ∨ okX' k, ⟨okX', v', hB', fun _ => Iff.rfl⟩, fun _ _ h => h, hl.frame hK (fun k hk => (hF k).2 hk) (fun k hu => ?_)⟩
  rcases hu with h | h | h
  · exact h.elim
  · exact .inl ((hF k).2 (.inl h))
  · exact (hS' k h).imp (fun h => (hF k).2 (.inr h)) id
/-! #### what both maps do -/
open Classical in
noncomputable def addX (X : Xp) (r : List S53) (n : Int) : Int × Int × Xp :=
  if OkR r then (if xover (xval X r) n (wrap64 (xval X r + n)) = true then (0, 20, X) else (wrap64 (xval X r + n), 0, xput X r (wrap64 (xval X r + n)))) else (0, 31, X)
theorem xval_n64 {X : Xp} (h : VX X) (r : List S53) : n64 (xval X r) := by
  unfold xval
  cases hx : xidx X r with
  | none => exact (⟨by decide, by decide⟩ : n64 0)
  | some i =>
    have hi := xidx_lt hx
    refine h.nums _ ?_
    unfold rd_T84
    rw [Int.toNat_natCast, List.getD_eq_getElem?_getD, List.getElem?_eq_getElem hi]
    exact List.getElem_mem hi
theorem addX_vx {X : Xp} (h : VX X) {r : List S53} (ir : RI r) {n : Int} : VX (addX X r n).2.2 := by
  unfold addX
  split
  · rename_i ho
    split
    · exact h
    · exact h.put ho ir (w64_in _)
  · exact h
theorem addX_len (X : Xp) (r : List S53) (n : Int) : (addX X r n).2.2.length ≤ X.length + 1 := by
  unfold addX
  split
  · split
    · exact Nat.le_succ _
    · exact xput_len _ _ _
  · exact Nat.le_succ _
theorem look_val {X : Xp} {r : List S53} (h : VX X) (hr : OkR r) (ir : RI r) : (look (X.map pr) (pc r)).getD 0 = xval X r ∧ (look (X.map pr) (pc r)).isSome = (xidx X r).isSome := by
  rw [look_map h hr ir]
  unfold xval
  cases xidx X r <;> exact ⟨rfl, rfl⟩
theorem enc_small {r : List S53} (ir : RI r) : r.length ≤ 1048576 ∧ wtFrom r r.length 0 ≤ 16777216 := by
  have h1 := len_mu r
  have h2 := wt_mu r
  have h3 := ir.small
  omega
theorem allB_wt (r : List S53) : (allB r).length ≤ wtFrom r r.length 0 := by
  have key : ∀ d i, i + d = r.length → (allB (r.drop i)).length ≤ wtFrom r d i := by
    intro d
    induction d with
    | zero => intro i h; rw [List.drop_eq_nil_of_le (by omega)]; simp [allB]
    | succ d ih =>
      intro i h
      have hi : i < r.length := by omega
      have e : rd_T53 r i = r[i] := by unfold rd_T53; rw [Int.toNat_natCast, List.getD_eq_getElem?_getD, List.getElem?_eq_getElem hi]; rfl
      have h2 := ih (i + 1) (by omega)
      have h3 := encB_len (r[i])
      have ec : allB (r.drop i) = encB r[i] ++ allB (r.drop (i + 1)) := by rw [List.drop_eq_getElem_cons hi]; unfold allB; rw [List.map_cons, List.flatten_cons]
      rw [ec, List.length_append, wtFrom, e]
      omega
  have := key r.length 0 (by omega)
  rwa [List.drop_zero] at this
theorem allB_le {r : List S53} (ir : RI r) : (allB r).length ≤ 16777216 := Nat.le_trans (allB_wt r) (enc_small ir).2
theorem okk_pc {r : List S53} (hr : OkR r) (ir : RI r) : Okk (pc r) := by
  have hs := enc_small ir
  have hz : (strOfNums (allB r)).size = (allB r).length := by rw [← bytesOf_length, bytesOf_str _ (allB_in r)]
  have hlen := allB_wt r
  refine ⟨?_, ?_⟩
  · show (encV r).1.size ≤ maxLen
    rw [encV_ok r hr]
    show (strOfNums (allB r)).size ≤ maxLen
    simp only [maxLen]
    omega
  · show (Lit.int .i64 (r.length : Int)).wf = true
    simp only [Lit.wf, Bool.and_eq_true, decide_eq_true_eq]
    have a1 : IntKind.i64.min = -9223372036854775808 := by decide
    have a2 : IntKind.i64.max = 9223372036854775807 := by decide
    rw [a1, a2]
    omega
theorem encV_err (r : List S53) : (OkR r → (encV r).2 = 0) ∧ (¬ OkR r → encV r = (⟨#[]⟩, 31)) := ⟨fun h => by rw [encV_ok r h], fun h => encV_not r h⟩
theorem of_any {W : World} {v : Value} {r : List S53} {A : Option Addr} {m c : Nat} (hv : v = .slice A m c) (hld : LaidW W) (hC : k53.C W A m r) (hm : r.length = m) (hc : m ≤ c) (ir : RI r) : OfK W v (pc r) (encV r).2 := by
  subst hv hm
  have hs := enc_small ir
  obtain ⟨K, hK⟩ := kEnc_ev r (by omega) (by omega)
  exact ofK (k := K) hld hC hc (by unfold key_of.f; rw [show key_Encode.f K r = some (encV r) from hK K (Nat.le_refl _)]; rfl)
/-! #### over what lies apart -/
section
variable {g gx n : Nat} {X : Xp} {r : List S53} {A : Option Addr} {m c : Nat}
theorem row_reads (h : Apart w (Rv (.slice A m c) r :: L)) : k53.C w A m r ∧ r.length = m ∧ m ≤ c := by
  obtain ⟨F, hR, _⟩ := Sep.out h
  obtain ⟨rfl, hc, hC⟩ := Kd.R_reads' hR.1
  exact ⟨hC, rfl, hc⟩
theorem row_of (h : Apart w (Rv (.slice A m c) r :: L)) (hm : Old w0 ∈ L) (hld : LaidW w0) (ir : RI r) : OfK w (.slice A m c) (pc r) (encV r).2 := by
  obtain ⟨h1, h2, h3⟩ := row_reads h
  exact of_any rfl (laid_of h (List.mem_cons_of_mem _ hm) hld) h1 h2 h3 ir
theorem kadd (x : Int) (h : Apart w (Rv (.slice A m c) r :: Mm g n (X.map pr) :: L)) (hm : Old w0 ∈ L) (hld : LaidW w0) (hX : VX X) (ir : RI r) (hx : n64 x) (hl : X.length ≤ 1099511627776) (hn : n ≤ 1099511627776) :
    Calls Tryd.prog 14 #[.pointer (some ⟨g, 0, none⟩), .slice A m c, .int .i64 x] w fun e w' => e = .returned (.tuple #[.int .i64 (addX X r x).1, .int .i64 (addX X r x).2.1]) ∧ Apart w' (Rv (.slice A m c) r :: Mm g (n + 1) ((addX X r x).2.2.map pr) :: L) := by
  have hof := row_of h (List.mem_cons_of_mem _ hm) hld ir
  by_cases ho : OkR r
  · rw [(encV_err r).1 ho] at hof
    obtain ⟨e1, e2⟩ := look_val hX ho ir
    have hs := Sep.swap h
    have hov := over_eq (xval_n64 hX r) hx
    cases hc : xover (xval X r) x (wrap64 (xval X r + x)) with
    | true =>
      have ha : addX X r x = (0, 20, X) := by unfold addX; rw [if_pos ho, if_pos hc]
      rw [ha]
      refine (add_over_sep rfl hs (Below.refl _ _) hof (okk_pc ho ir) (by simpa using hl) (by simp only [maxLen]; omega) (by rw [e1, hov]; exact hc)).mono fun e w' ⟨he, hh⟩ => ⟨he, Sep.swap (Mm.up hh)⟩
    | false =>
      have ha : addX X r x = (wrap64 (xval X r + x), 0, xput X r (wrap64 (xval X r + x))) := by unfold addX; rw [if_pos ho, if_neg (by rw [hc]; decide)]
      rw [ha]
      refine (add_sep rfl hs (Below.refl _ _) hof (okk_pc ho ir) (by simpa using hl) (by simp only [maxLen]; omega) (by rw [e1]) (by rw [e1, hov]; exact hc)).mono fun e w' ⟨he, hh⟩ => ⟨he, ?_⟩
      rw [put_map hX ho ir] at hh
      exact Sep.swap hh
  · rw [(encV_err r).2 ho] at hof
    have ha : addX X r x = (0, 31, X) := by unfold addX; rw [if_neg ho]
    rw [ha]
    refine (add_bad A m c x w (by decide) hof).mono fun e w' ⟨he, hb⟩ => ⟨he, ?_⟩
    exact Sep.swap (Mm.up (Sep.swap (h.onto hb)))
theorem kremove (h : Apart w (Rv (.slice A m c) r :: Mm g n (X.map pr) :: L)) (hm : Old w0 ∈ L) (hld : LaidW w0) (hX : VX X) (ir : RI r) (hl : X.length ≤ 1099511627776) :
    Calls Tryd.prog 16 #[.pointer (some ⟨g, 0, none⟩), .slice A m c] w fun e w' => e = .returned (.bool (xidx X r).isSome) ∧ Apart w' (Rv (.slice A m c) r :: Mm g n ((xrem X r).map pr) :: L) := by
  have hof := row_of h (List.mem_cons_of_mem _ hm) hld ir
  by_cases ho : OkR r
  · rw [(encV_err r).1 ho] at hof
    obtain ⟨e1, e2⟩ := look_val hX ho ir
    refine (remove_sep rfl (Sep.swap h) (Below.refl _ _) hof (okk_pc ho ir) (by simpa using hl)).mono fun e w' ⟨he, hh⟩ => ?_
    rw [e2] at he
    rw [drop_map hX ho ir] at hh
    exact ⟨he, Sep.swap hh⟩
  · rw [(encV_err r).2 ho] at hof
    have hx := xidx_bad hX ho
    have hr : xrem X r = X := by unfold xrem; rw [hx]
    rw [hx, hr]
    exact (remove_bad A m c w (by decide) hof).mono fun e w' ⟨he, hb⟩ => ⟨he, h.onto hb⟩
theorem kget (h : Apart w (Rv (.slice A m c) r :: Mm g n (X.map pr) :: L)) (hm : Old w0 ∈ L) (hld : LaidW w0) (hX : VX X) (ir : RI r) :
    Calls Tryd.prog 18 #[.pointer (some ⟨g, 0, none⟩), .slice A m c] w fun e w' => e = .returned (.tuple #[.int .i64 (xval X r), .bool (xidx X r).isSome]) ∧ Apart w' (Rv (.slice A m c) r :: Mm g n (X.map pr) :: L) := by
  have hof := row_of h (List.mem_cons_of_mem _ hm) hld ir
  by_cases ho : OkR r
  · rw [(encV_err r).1 ho] at hof
    obtain ⟨e1, e2⟩ := look_val hX ho ir
    refine (get_sep rfl (Sep.swap h) (Below.refl _ _) hof (okk_pc ho ir)).mono fun e w' ⟨he, hh⟩ => ?_
    rw [e1, e2] at he
    exact ⟨he, Sep.swap hh⟩
  · rw [(encV_err r).2 ho] at hof
    have hx := xidx_bad hX ho
    have hv : xval X r = 0 := by unfold xval; rw [hx]
    rw [hx, hv]
    exact (get_bad A m c w (by decide) hof).mono fun e w' ⟨he, hb⟩ => ⟨he, h.onto hb⟩
theorem krows (h : Apart w (Mm g n (X.map pr) :: L)) (hm : Old w0 ∈ L) (hld : LaidW w0) (hX : VX X) (hl : X.length ≤ 1099511627776) :
    Calls Tryd.prog 20 #[.pointer (some ⟨g, 0, none⟩)] w fun e w' => ∃ A c, e = .returned (.slice A X.length c) ∧ Apart w' (Rw (.slice A X.length c) (X.map (·.f0)) :: Mm g n (X.map pr) :: L) := by
  have hld' := laid_of h (List.mem_cons_of_mem _ hm) hld
  have hd : DecK w (fun x => (decV x.f0).1) ((X.map pr).map (·.1)) := fun x hx w1 hb => by
    rw [List.map_map] at hx
    obtain ⟨e, he, rfl⟩ := List.mem_map.1 hx
    have hs := okk_pc (hX.ok e he) (hX.ri e he)
    obtain ⟨K, hK⟩ := kDec_ev (pc e.f0).f0 (by
      have hs2 := enc_small (hX.ri e he)
      have hz : (strOfNums (allB e.f0)).size = (allB e.f0).length := by rw [← bytesOf_length, bytesOf_str _ (allB_in e.f0)]
      show (encV e.f0).1.size < _
      rw [encV_ok e.f0 (hX.ok e he)]
      show (strOfNums (allB e.f0)).size < _
      rw [hz]
      exact Nat.lt_of_le_of_lt (allB_le (hX.ri e he)) (by decide))
    exact (key_Decode.calls K _ _ _ w1 (hld'.below hb) (hK K (Nat.le_refl _))).mono fun e' w' ⟨v, h1, h2, h3⟩ => ⟨v, _, h1, h2, h3⟩
  have := rows_sep (fun x => (decV x.f0).1) h (Below.refl _ _) (by simpa using hl) hd
  have e : ((X.map pr).map (·.1)).map (fun x => (decV x.f0).1) = X.map (·.f0) := by
    rw [List.map_map, List.map_map]
    refine List.map_congr_left fun e he => ?_
    show (decV (encV e.f0).1).1 = e.f0
    rw [encV_ok e.f0 (hX.ok e he)]
    show (decV (strOfNums (allB e.f0))).1 = e.f0
    rw [decV_enc e.f0 (hX.ok e he) (hX.ri e he).in_]
  rw [e, List.length_map] at this
  exact this
end
end Go.Proofs.YtiabggpijomjmaaDoor
namespace Go.Proofs.YtiabggpijomjmaaDoor
open Go.RowKit Print Go.Proofs.YtiabggpijomjmaaDoorW.PrintWords Go.Proofs.YtiabggpijomjmaaDoorW.PrintLast Go.Proofs.YtiabggpijomjmaaDoorW.PrintMore
set_option linter.unusedVariables false
variable {w w0 W : World} {L : List Asr}
section
variable {g gx n : Nat} {X : Xp} {r : List S53} {A : Option Addr} {m c : Nat}
theorem xidx_put {X : Xp} {r : List S53} {x : Int} : (xidx X r = none → xput X r x = X ++ [⟨r, x⟩]) ∧ (∀ i, xidx X r = some i → xput X r x = X.set i ⟨(rd_T84 X i).f0, x⟩) := ⟨fun h => by unfold xput; rw [h], fun i h => by unfold xput; rw [h]⟩
theorem xadd (x : Int) (h : Apart w (Xm gx X :: L)) (hr : SameA w X A m c r) (hX : VX X) (ir : RI r) (hx : n64 x) (hl : X.length ≤ 1099511627776) :
    Calls Tryd.prog 15 #[.pointer (some ⟨gx, 0, none⟩), .slice A m c, .int .i64 x] w fun e w' => e = .returned (.tuple #[.int .i64 (addX X r x).1, .int .i64 (addX X r x).2.1]) ∧ Apart w' (Xm gx (addX X r x).2.2 :: L) := by
  have hs := enc_small ir
  obtain ⟨K, hK0⟩ := rEnc_ev r (by omega) (by omega)
  have hK : marqueeref04_Encode.f K r = some (encV r) := hK0 K (Nat.le_refl _)
  obtain ⟨F, ⟨okX, v, hB, hF⟩, _, hl'⟩ := Sep.out h
  have hl2 := hl'.mono (U' := F) (fun k hk => .inr hk)
  by_cases ho : OkR r
  · have he0 : encV r = ((encV r).1, 0) := Prod.ext rfl ((encV_err r).1 ho)
    rw [he0] at hK
    cases hi : xidx X r with
    | none =>
      have hv : xval X r = 0 := by unfold xval; rw [hi]
      have hw : wrap64 (0 + x) = x := by unfold n64 at hx; unfold wrap64; omega
      have hxo : xover 0 x x = false := by simp [xover]
      have ha : addX X r x = (x, 0, X ++ [⟨r, x⟩]) := by unfold addX; rw [if_pos ho, hv, hw, if_neg (by rw [hxo]; decide), xidx_put.1 hi]
      rw [ha]
      exact (xadd_new A m c x w hB hr hK hl (by omega) hi).mono fun e w' ⟨he, hp⟩ => ⟨he, xm_step hF hl2 hp⟩
    | some i =>
      have hv : xval X r = (rd_T84 X i).f1 := by unfold xval; rw [hi]
      cases hc : xover (rd_T84 X i).f1 x (wrap64 ((rd_T84 X i).f1 + x)) with
      | true =>
        have ha : addX X r x = (0, 20, X) := by unfold addX; rw [if_pos ho, hv, if_pos hc]
        rw [ha]
        refine (xadd_old A m c x w hB hr hK hl hi).mono fun e w' ⟨h1, _⟩ => ?_
        obtain ⟨he, hb⟩ := h1 hc
        exact ⟨he, h.onto hb⟩
      | false =>
        have ha : addX X r x = (wrap64 ((rd_T84 X i).f1 + x), 0, X.set i ⟨(rd_T84 X i).f0, wrap64 ((rd_T84 X i).f1 + x)⟩) := by unfold addX; rw [if_pos ho, hv, if_neg (by rw [hc]; decide), xidx_put.2 i hi]
        rw [ha]
        refine (xadd_old A m c x w hB hr hK hl hi).mono fun e w' ⟨_, h2⟩ => ?_
        obtain ⟨he, hp⟩ := h2 (by rw [hc]; decide)
        exact ⟨he, xm_step hF hl2 hp⟩
  · have ha : addX X r x = (0, 31, X) := by unfold addX; rw [if_neg ho]
    rw [ha]
    rw [(encV_err r).2 ho] at hK
    exact (xadd_bad A m c x w hr hK (by decide)).mono fun e w' ⟨he, hb⟩ => ⟨he, h.onto hb⟩
theorem xremove (h : Apart w (Xm gx X :: L)) (hr : SameA w X A m c r) (hl : X.length ≤ 1099511627776) :
    Calls Tryd.prog 17 #[.pointer (some ⟨gx, 0, none⟩), .slice A m c] w fun e w' => e = .returned (.bool (xidx X r).isSome) ∧ Apart w' (Xm gx (xrem X r) :: L) := by
  obtain ⟨F, ⟨okX, v, hB, hF⟩, _, hl'⟩ := Sep.out h
  have hl2 := hl'.mono (U' := F) (fun k hk => .inr hk)
  cases hi : xidx X r with
  | none =>
    have hx : xrem X r = X := by unfold xrem; rw [hi]
    rw [hx]
    exact (xremove_none A m c w hB hr hl hi).mono fun e w' ⟨he, hb⟩ => ⟨he, h.onto hb⟩
  | some i =>
    have hx : xrem X r = X.take i ++ X.drop (i + 1) := by unfold xrem; rw [hi]
    rw [hx]
    exact (xremove_some A m c w hB hr hl hi).mono fun e w' ⟨he, hp⟩ => ⟨he, xm_step hF hl2 hp⟩
theorem xget (h : Apart w (Xm gx X :: L)) (hr : SameA w X A m c r) (hl : X.length ≤ 1099511627776) :
    Calls Tryd.prog 19 #[.pointer (some ⟨gx, 0, none⟩), .slice A m c] w fun e w' => e = .returned (.tuple #[.int .i64 (xval X r), .bool (xidx X r).isSome]) ∧ Apart w' (Xm gx X :: L) := by
  obtain ⟨F, ⟨okX, v, hB, hF⟩, _, hl'⟩ := Sep.out h
  exact (xget_any A m c w hB hr hl).mono fun e w' ⟨he, hb⟩ => ⟨he, h.onto hb⟩
/-- The document's rows, read. -/
theorem xrows (h : Apart w (Xm gx X :: L)) (hl : X.length ≤ 1099511627776) :
    Calls Tryd.prog 23 #[.pointer (some ⟨gx, 0, none⟩)] w fun e w' => ∃ A c, e = .returned (.slice A X.length c) ∧ (X.length ≤ c ∧ kS.C w' A X.length (X.map (·.f0))) ∧ Apart w' (Xm gx X :: L) := by
  obtain ⟨F, ⟨okX, v, hB, hF⟩, _, hl'⟩ := Sep.out h
  exact (xrows_any w hB hl).mono fun e w' ⟨A, c, he, h1, h2, hb⟩ => ⟨A, c, he, ⟨h1, h2⟩, h.onto hb⟩
theorem xlen (h : Apart w (Xm gx X :: L)) : ∃ A c, w.cell? ⟨gx, 0, none⟩ = some (.slice A X.length c) := by
  obtain ⟨F, ⟨okX, v, hB, hF⟩, _, hl'⟩ := Sep.out h
  obtain ⟨A, c, rfl⟩ := Kd.N_slice hB.rows
  exact ⟨A, c, hB.at_.cell⟩
theorem twinS (h : Apart w L) (hC : k53.C w A m r) (hm : r.length = m) (hc : m ≤ c) (ir : RI r) : Calls Tryd.prog 6 #[.slice A m c] w fun e w' => ∃ A' c', e = .returned (.slice A' m c') ∧ Apart w' (Rv (.slice A' m c') r :: L) := by
  subst hm
  have hs := enc_small ir
  have ht : marqueelaw04_twin.f r = some r := by unfold marqueelaw04_twin.f; rw [if_pos (by simp; omega)]; rfl
  exact (marqueelaw04_twin.calls A c r r w hC hc ht).mono fun e w' ⟨v, he, hR, hb⟩ => by
    obtain ⟨A', c', rfl⟩ := Kd.R_slice hR
    exact ⟨A', c', he, Sep.new h hb ⟨Kd.R_lower (Kd.R_bound hR) (Nat.zero_le _), fun k hk => hk.2.2.1⟩ (fun k hk => hk.2.1)⟩
end
/-! #### the rows are the same -/
def rowsV (l m : List (List S53)) : Nat → Nat → Bool
  | 0, _ => true
  | d + 1, i => rowV (rd_L4 l i) (rd_L4 m i) && rowsV l m d (i + 1)
theorem sameRows_from (l : List (List S53)) (hl : l.length ≤ 1099511627776) (hr : ∀ x ∈ l, x.length ≤ 1099511627776) : ∀ (d i : Nat), i + d = l.length → Ev (fun k => marqueeref03_SameRows.l0 k l l (i : Int)) true
  | 0, i, h => by
    refine Ev.stops (fun k => ?_)
    rw [marqueeref03_SameRows.l0, if_neg (by omega)]
  | d + 1, i, h => by
    have e1 := wrap_nat (i := i) (by omega)
    have IH := sameRows_from l hl hr d (i + 1) (by omega)
    have hi : i < l.length := by omega
    have e : rd_L4 l i = l[i] := by unfold rd_L4; rw [Int.toNat_natCast, List.getD_eq_getElem?_getD, List.getElem?_eq_getElem hi]; rfl
    have hlen : (rd_L4 l i).length ≤ 9223372036854775807 := by rw [e]; have := hr _ (List.getElem_mem hi); omega
    refine Ev.step (fun k => by rw [marqueeref03_SameRows.l0, if_pos (by omega), if_pos (by omega), if_pos (by omega)]) (Ev.bind (rRow_ev _ _ hlen) ?_)
    rw [rowV_self]
    exact Ev.congr (fun k => by rw [if_pos rfl, e1]) IH
theorem same_ev (l : List (List S53)) (hl : l.length ≤ 1099511627776) (hr : ∀ x ∈ l, x.length ≤ 1099511627776) : Ev (fun k => marqueelaw04_same.f k l l) true := by
  have h := sameRows_from l hl hr l.length 0 (by omega)
  have h2 : Ev (fun k => marqueeref03_SameRows.f k l l) true := Ev.congr (fun k => by unfold marqueeref03_SameRows.f; rw [if_pos rfl]; rfl) h
  exact Ev.congr (f := fun k => (marqueeref03_SameRows.f k l l).bind fun t => some t) (fun k => rfl) (Ev.bind h2 (Ev.now _))
theorem sameS {A A' : Option Addr} {m c c' : Nat} {ll : List (List S53)} (h : Apart w L) (hm : ll.length = m) (hC : kS.C w A m ll) (hc : m ≤ c) (hC' : kS.C w A' m ll) (hc' : m ≤ c') (hl : m ≤ 1099511627776) (hr : ∀ x ∈ ll, x.length ≤ 1099511627776) :
    Calls Tryd.prog 22 #[.slice A m c, .slice A' m c'] w fun e w' => e = .returned (.bool true) ∧ Apart w' L := by
  subst hm
  obtain ⟨K, hK⟩ := same_ev ll hl hr
  exact (marqueelaw04_same.calls K A c ll A' c' ll true w hC hc hC' hc' (hK K (Nat.le_refl _))).mono fun e w' ⟨he, hd⟩ => ⟨he, h.onto hd.below⟩
end Go.Proofs.YtiabggpijomjmaaDoor
namespace Go.Proofs.YtiabggpijomjmaaDoor
open Go.RowKit Print Go.Proofs.YtiabggpijomjmaaDoorW.PrintWords Go.Proofs.YtiabggpijomjmaaDoorW.PrintLast Go.Proofs.YtiabggpijomjmaaDoorW.PrintMore
set_option linter.unusedVariables false
variable {w w0 W : World} {L : List Asr}
/-! ### Rows that are written over: their shape alone counts -/
def WvP (w : World) (F : Nat → Prop) (v : Value) (n : Nat) : Prop :=
  ∃ A c, v = .slice A n c ∧ (0 < n → ∃ g cur t, A = some ⟨g, 0, none⟩ ∧ F g ∧ w.heap[g]? = some (.cells cur t (0, 0)) ∧ n * 3 ≤ cur.size ∧ n ≤ c)
theorem WvP.set {F : Nat → Prop} {v : Value} {n : Nat} (h : WvP w F v n) (g1 i : Nat) (u : Value) : WvP (w.setCell ⟨g1, i, none⟩ u) F v n := by
  obtain ⟨A, c, rfl, h⟩ := h
  refine ⟨A, c, rfl, fun hn => ?_⟩
  obtain ⟨g, cur, t, rfl, hF, hh, hs, hc⟩ := h hn
  by_cases e : g = g1
  · subst e
    exact ⟨g, _, t, rfl, hF, blk_set hh i u, by simpa using hs, hc⟩
  · exact ⟨g, cur, t, rfl, hF, blk_far hh (p := ⟨g1, i, none⟩) e u, hs, hc⟩
theorem WvP.kept {w1 : World} {F S : Nat → Prop} {v : Value} {n : Nat} (h : WvP w F v n) (hk : K3 w w1 S) (hd : ∀ k, F k → ¬ S k) : WvP w1 F v n := by
  obtain ⟨A, c, rfl, h⟩ := h
  refine ⟨A, c, rfl, fun hn => ?_⟩
  obtain ⟨g, cur, t, rfl, hF, hh, hs⟩ := h hn
  exact ⟨g, cur, t, rfl, hF, K3.blk hh hk (hd g hF), hs⟩
theorem WvP.of {F : Nat → Prop} {v : Value} {r : List S53} (h : k53.R 53 w 0 F v r) : WvP w F v r.length := by
  obtain ⟨h0, inner, ⟨hl, ho⟩, hr⟩ := h
  rcases ho with ⟨rfl, hz⟩ | ⟨g, cap, cur, rfl, _, hh, hc, _, hs, _⟩
  · rw [hz]; exact ⟨none, 0, rfl, fun h => absurd h (Nat.lt_irrefl _)⟩
  · refine ⟨_, cap, rfl, fun hn => ⟨g, cur, 53, rfl, h0 g rfl, hh, ?_, hc⟩⟩
    rw [hs]
    exact Nat.mul_le_mul_right _ hc
def Wv (v : Value) (n : Nat) : Asr where
  P w F := WvP w F v n ∧ ∀ k, F k → k < w.heap.size
  lt h := h.2
  keep h hk hd := ⟨h.1.kept hk hd, fun k hf => Nat.lt_of_lt_of_le (h.2 k hf) hk.1⟩
theorem rv_wv {v : Value} {r : List S53} {U : Nat → Prop} (h : Sep w (Rv v r :: L) U) : Sep w (Wv v r.length :: L) U := by
  obtain ⟨F, hR, hd, hl⟩ := h
  exact ⟨F, ⟨WvP.of hR.1, hR.2⟩, hd, hl⟩
theorem cell_at_some {g i : Nat} {cur : Array Value} {t : TypeId} (h : w.heap[g]? = some (.cells cur t (0, 0))) (hi : i < cur.size) : ∃ x, w.cell? ⟨g, i, none⟩ = some x := ⟨cur[i], (blk_cell h i).trans (Array.getElem?_eq_getElem hi)⟩
/-- What is known of one value's cells. -/
structure Three (w : World) (g i : Nat) : Prop where
  x : ∃ x, w.cell? ⟨g, i, none⟩ = some x
  y : ∃ x, w.cell? ⟨g, i + 1, none⟩ = some x
  z : ∃ x, w.cell? ⟨g, i + 2, none⟩ = some x
  fx : w.frozen? ⟨g, i, none⟩ = false
  fy : w.frozen? ⟨g, i + 1, none⟩ = false
  fz : w.frozen? ⟨g, i + 2, none⟩ = false
theorem three_of {g i n : Nat} {cur : Array Value} {t : TypeId} (h : w.heap[g]? = some (.cells cur t (0, 0))) (hs : n * 3 ≤ cur.size) (hi : i < n) : Three w g (i * 3) :=
  ⟨cell_at_some h (by omega), cell_at_some h (by omega), cell_at_some h (by omega), blk_frozen h _, blk_frozen h _, blk_frozen h _⟩
theorem k3_set {F : Nat → Prop} {g : Nat} (hg : F g) (i : Nat) (u : Value) : K3 w (w.setCell ⟨g, i, none⟩ u) F := (K3.refl w F).setCell (p := ⟨g, i, none⟩) (.inl hg) u
theorem wv_set {A : Option Addr} {n c g : Nat} (h : Apart w (Wv (.slice A n c) n :: L)) (hn : 0 < n) (hA : A = some ⟨g, 0, none⟩) (i : Nat) (u : Value) : Apart (w.setCell ⟨g, i, none⟩ u) (Wv (.slice A n c) n :: L) := by
  obtain ⟨F, ⟨hW, hlt⟩, hd, hl⟩ := h
  obtain ⟨A', c', he, hh⟩ := id hW
  obtain ⟨g', cur, t, hA', hF, _⟩ := hh hn
  injection he with he _ _
  rw [← he, hA] at hA'
  injection hA' with hA'
  injection hA' with hA'
  subst hA'
  have hsz : (w.setCell ⟨g, i, none⟩ u).heap.size = w.heap.size := by simp [World.setCell]
  exact ⟨F, ⟨hW.set g i u, fun k hk => by rw [hsz]; exact hlt k hk⟩, hd, hl.frame (k3_set hF i u) (fun k hk => .inr hk) (fun k hk => .inl hk)⟩
theorem wv_at {A : Option Addr} {n c : Nat} (h : Apart w (Wv (.slice A n c) n :: L)) (i : Nat) (hi : i < n) : ∃ g, A = some ⟨g, 0, none⟩ ∧ Three w g (i * 3) ∧ n ≤ c := by
  obtain ⟨F, ⟨hW, hlt⟩, hd, hl⟩ := h
  obtain ⟨A', c', he, hh⟩ := hW
  obtain ⟨g', cur, t, hA', hF, hb, hs, hc⟩ := hh (by omega)
  injection he with he _ hc'
  subst he hA'
  exact ⟨g', rfl, three_of hb hs hi, by omega⟩
def WvsP (w : World) (F : Nat → Prop) (v : Value) (ns : List Nat) : Prop :=
  ∃ A c, v = .slice A ns.length c ∧ (0 < ns.length → ∃ g0 cur t, A = some ⟨g0, 0, none⟩ ∧ F g0 ∧ w.heap[g0]? = some (.cells cur t (0, 0)) ∧ ns.length ≤ c ∧ ∀ (j n : Nat), ns[j]? = some n → ∃ u, cur[j]? = some u ∧ WvP w (fun k => F k ∧ k ≠ g0) u n)
def Wvs (v : Value) (ns : List Nat) : Asr where
  P w F := WvsP w F v ns ∧ ∀ k, F k → k < w.heap.size
  lt h := h.2
  keep h hk hd := by
    obtain ⟨⟨A, c, rfl, hh⟩, h2⟩ := h
    refine ⟨⟨A, c, rfl, fun hn => ?_⟩, fun k hf => Nat.lt_of_lt_of_le (h2 k hf) hk.1⟩
    obtain ⟨g0, cur, t, rfl, hF, hb, hc, hj⟩ := hh hn
    exact ⟨g0, cur, t, rfl, hF, K3.blk hb hk (hd g0 hF), hc, fun j n hjn => by
      obtain ⟨u, hu, hw⟩ := hj j n hjn
      exact ⟨u, hu, hw.kept hk (fun k hk' => hd k hk'.1)⟩⟩
theorem rw_wvs {v : Value} {ll : List (List S53)} {U : Nat → Prop} (h : Sep w (Rw v ll :: L) U) : Sep w (Wvs v (ll.map List.length) :: L) U := by
  obtain ⟨F, ⟨⟨h0, inner, ⟨hl, ho⟩, hr⟩, hlt⟩, hd, hrest⟩ := h
  refine ⟨F, ⟨?_, hlt⟩, hd, hrest⟩
  rcases ho with ⟨rfl, hz⟩ | ⟨g, cap, cur, rfl, _, hh, hc, _, hs, ht⟩
  · have e : ll = [] := List.eq_nil_of_length_eq_zero hz
    subst e
    exact ⟨none, 0, rfl, fun h => absurd h (Nat.lt_irrefl _)⟩
  · refine ⟨_, cap, by rw [List.length_map], fun hn => ⟨g, cur, 22, rfl, h0 g rfl, hh, by rw [List.length_map]; exact hc, fun j n hj => ?_⟩⟩
    rw [List.getElem?_map, Option.map_eq_some_iff] at hj
    obtain ⟨r, hjr, rfl⟩ := hj
    obtain ⟨u, hu, hR⟩ := hr.2 j r hjr
    have hjl : j < ll.length := (List.getElem?_eq_some_iff.1 hjr).1
    refine ⟨u, ?_, WvP.of (Kd.R_mono hR (fun k hk => ⟨hk.1, fun e => hk.2 (by rw [e]; rfl)⟩))⟩
    have sz : kS.sz = 1 := rfl
    rw [sz, Nat.mul_one] at hu ht
    have h1 : ((inner.drop j).take 1)[0]? = some u := by
      rw [hu]
      rfl
    rw [List.getElem?_take, if_pos (by omega), List.getElem?_drop, ← ht, List.getElem?_take, if_pos (by omega), Array.getElem?_toList] at h1
    simpa using h1
theorem wvs_at {A : Option Addr} {m c : Nat} {ns : List Nat} (h : Apart w (Wvs (.slice A m c) ns :: L)) (j n : Nat) (hj : ns[j]? = some n) :
    ∃ g0 B d, A = some ⟨g0, 0, none⟩ ∧ m ≤ c ∧ w.cell? ⟨g0, j, none⟩ = some (.slice B n d) ∧
      ∀ i, i < n → n ≤ d ∧ ∃ g1, B = some ⟨g1, 0, none⟩ ∧ Three w g1 (i * 3) ∧ ∀ x y z, Apart (((w.setCell ⟨g1, i * 3, none⟩ x).setCell ⟨g1, i * 3 + 1, none⟩ y).setCell ⟨g1, i * 3 + 2, none⟩ z) (Wvs (.slice A m c) ns :: L) := by
  obtain ⟨F, ⟨hW, hlt⟩, hd, hl⟩ := h
  obtain ⟨A', c', he, hh⟩ := id hW
  have hjl : j < ns.length := (List.getElem?_eq_some_iff.1 hj).1
  obtain ⟨g0, cur, t, hA', hF, hb, hc, hjn⟩ := hh (by omega)
  obtain ⟨u, hu, B, d, rfl, hB⟩ := hjn j n hj
  injection he with he hm hc'
  subst he hA' hm hc'
  refine ⟨g0, B, d, rfl, hc, (blk_cell hb j).trans hu, fun i hi => ?_⟩
  obtain ⟨g1, cur1, t1, rfl, ⟨hF1, hne⟩, hb1, hs1, hc1⟩ := hB (by omega)
  refine ⟨hc1, g1, rfl, three_of hb1 hs1 hi, fun x y z => ?_⟩
  have one : ∀ {w' : World} (i' : Nat) (x' : Value), Apart w' (Wvs (.slice (some ⟨g0, 0, none⟩) ns.length c) ns :: L) → True := fun _ _ _ => trivial
  have step : ∀ (w' : World), (WvsP w' F (.slice (some ⟨g0, 0, none⟩) ns.length c) ns ∧ (∀ k, F k → k < w'.heap.size)) → Sep w' L (fun k => False ∨ F k) → ∀ (i' : Nat) (x' : Value), (WvsP (w'.setCell ⟨g1, i', none⟩ x') F (.slice (some ⟨g0, 0, none⟩) ns.length c) ns ∧ (∀ k, F k → k < (w'.setCell ⟨g1, i', none⟩ x').heap.size)) ∧ Sep (w'.setCell ⟨g1, i', none⟩ x') L (fun k => False ∨ F k) := by
    intro w' ⟨⟨A2, c2, he2, h2⟩, hlt2⟩ hl2 i' x'
    have hsz : (w'.setCell ⟨g1, i', none⟩ x').heap.size = w'.heap.size := by simp [World.setCell]
    refine ⟨⟨⟨A2, c2, he2, fun hn => ?_⟩, fun k hk => by rw [hsz]; exact hlt2 k hk⟩, hl2.frame (k3_set hF1 i' x') (fun k hk => .inr hk) (fun k hk => .inl hk)⟩
    obtain ⟨g2, cur2, t2, hA2, hF2, hb2, hc2, hj2⟩ := h2 hn
    injection he2 with he2 _ _
    rw [← he2] at hA2
    injection hA2 with hA2
    injection hA2 with hA2
    subst hA2
    exact ⟨g0, cur2, t2, he2 ▸ rfl, hF2, blk_far hb2 (p := ⟨g1, i', none⟩) (fun e => hne e.symm) x', hc2, fun j' n' hj' => by
      obtain ⟨u', hu', hw'⟩ := hj2 j' n' hj'
      exact ⟨u', hu', hw'.set g1 i' x'⟩⟩
  obtain ⟨a1, b1⟩ := step w ⟨hW, hlt⟩ hl (i * 3) x
  obtain ⟨a2, b2⟩ := step _ a1 b1 (i * 3 + 1) y
  obtain ⟨a3, b3⟩ := step _ a2 b2 (i * 3 + 2) z
  exact ⟨F, a3, hd, b3⟩
/-! ### The script -/
structure S44 where
  f0 : Int
  f1 : Int
  f2 : List S53
def z44 : S44 := ⟨0, 0, []⟩
def k44 : Kd S44 := Kd.iso (Kd.pair (Kd.int .i64) (Kd.pair (Kd.int .i64) (Kd.slice 53 k53))) (fun x : S44 => (x.f0, x.f1, x.f2))
def rd_T44 (xs : List S44) (i : Int) : S44 := xs.getD i.toNat z44
theorem k44_open {w : World} {x : S44} {cs : List Value} (h : k44.K w x cs) : ∃ A0 c0, cs = [.int .i64 x.f0, .int .i64 x.f1, .slice A0 x.f2.length c0] ∧ x.f2.length ≤ c0 ∧ k53.C w A0 x.f2.length x.f2 := by
  obtain ⟨_, _, rfl, rfl, ⟨_, _, rfl, rfl, ⟨A0, c0, rfl, l0, g0⟩⟩⟩ := h
  exact ⟨A0, c0, rfl, l0, g0⟩
theorem at_T44 {w : World} {A : Option Addr} {n : Nat} {xs : List S44} (h : Kd.C k44 w A n xs) (i : Nat) (h1 : i < n) : ∃ (ad : Addr) (A0 : Option Addr) (c0 : Nat), A = some ad ∧ w.cell? (ad.add (i * 3)) = some (.int .i64 (rd_T44 xs i).f0) ∧ w.cell? ⟨(ad.add (i * 3)).block, (ad.add (i * 3)).off + 1, none⟩ = some (.int .i64 (rd_T44 xs i).f1) ∧
    w.cell? ⟨(ad.add (i * 3)).block, (ad.add (i * 3)).off + 2, none⟩ = some (.slice A0 (rd_T44 xs i).f2.length c0) ∧ (rd_T44 xs i).f2.length ≤ c0 ∧ k53.C w A0 (rd_T44 xs i).f2.length (rd_T44 xs i).f2 := by
  obtain ⟨ad, c, e, _, hK, hc0⟩ := Kd.C_get h z44 (i : Int) (by omega) (by omega)
  have hc : ∀ j u, c[j]? = some u → w.cell? (ad.add (i * 3 + j)) = some u := by rw [Int.toNat_natCast] at hc0; exact hc0
  obtain ⟨A0, c0, rfl, l0, g0⟩ := k44_open hK
  exact ⟨ad, A0, c0, e, hc 0 _ rfl, by rw [← add_field _ _ 1 (by omega)]; exact hc 1 _ rfl, by rw [← add_field _ _ 2 (by omega)]; exact hc 2 _ rfl, l0, g0⟩
end Go.Proofs.YtiabggpijomjmaaDoor
