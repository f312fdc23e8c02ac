import Derived.Test.YtiabggpijomjmaaDoorMA
import Derived.Test.YtiabggpijomjmaaDoorPlA
namespace Go.Proofs.YtiabggpijomjmaaDoor
open Go.RowKit Print Go.Proofs.YtiabggpijomjmaaDoorW.PrintWords Go.Proofs.YtiabggpijomjmaaDoorW.PrintLast Go.Proofs.YtiabggpijomjmaaDoorW.PrintMore
set_option linter.unusedVariables false
/-! ### The document's own map in memory -/
abbrev Xp := List S84
def XAt (w : World) (g : Nat) (v : Value) : Prop := w.heap[g]? = some (.cells #[v] 42 (0, 0))
section
variable {w w1 : World} {g : Nat} {v : Value}
theorem XAt.cell (h : XAt w g v) : w.cell? ⟨g, 0, none⟩ = some v := (blk_cell h 0).trans rfl
theorem XAt.frozen (h : XAt w g v) (i : Nat) : w.frozen? ⟨g, i, none⟩ = false := blk_frozen h i
theorem XAt.lt (h : XAt w g v) : g < w.heap.size := blk_lt h
theorem XAt.kept {S : Nat → Prop} (h : XAt w g v) (hk : K3 w w1 S) (hn : ¬ S g) : XAt w1 g v := K3.blk h hk hn
theorem XAt.below (h : XAt w g v) (hb : Below w.heap.size w w1) : XAt w1 g v := (hb.block g h.lt).trans h
theorem XAt.set (h : XAt w g v) (x : Value) : XAt (w.setCell ⟨g, 0, none⟩ x) g x := by
  simpa [XAt] using blk_set h 0 x
end
structure XB (w : World) (g : Nat) (okX : Nat → Prop) (v : Value) (X : Xp) : Prop where
  at_ : XAt w g v
  rows : Kd.N k84 84 w 0 okX v X
  gX : ¬ okX g
  lX : ∀ k, okX k → k < w.heap.size
theorem XB.kept {w w1 : World} {g : Nat} {okX S : Nat → Prop} {v : Value} {X : Xp} (h : XB w g okX v X) (hk : K3 w w1 S) (hg : ¬ S g) (hS : ∀ k, okX k → ¬ S k) : XB w1 g okX v X :=
  ⟨h.at_.kept hk hg, Kd.N_kept h.rows hk.kept hS, h.gX, fun k hk' => Nat.lt_of_lt_of_le (h.lX k hk') hk.1⟩
theorem XB.below {w w1 : World} {g : Nat} {okX : Nat → Prop} {v : Value} {X : Xp} (h : XB w g okX v X) (hb : Below w.heap.size w w1) : XB w1 g okX v X :=
  h.kept (K3.of_below hb (fun _ => False)) id (fun _ _ => id)
def Xm (g : Nat) (X : Xp) : Asr where
  P w F := ∃ okX v, XB w g okX v X ∧ ∀ k, F k ↔ (k = g ∨ okX k)
  lt h k hk := by
    obtain ⟨okX, v, hB, hF⟩ := h
    rcases (hF k).1 hk with e | h
    · subst e; exact hB.at_.lt
    · exact hB.lX k h
  keep h hk hd := by
    obtain ⟨okX, v, hB, hF⟩ := h
    exact ⟨okX, v, hB.kept hk (hd _ ((hF _).2 (.inl rfl))) (fun k h => hd k ((hF k).2 (.inr h))), hF⟩
/-- Which pair has the row? -/
def xidx : Xp → List S53 → Option Nat
  | [], _ => none
  | e :: X, r => if rowV e.f0 r = true then some 0 else (xidx X r).map (· + 1)
theorem rd_succ (e : S84) (X : Xp) (i : Nat) : rd_T84 (e :: X) ((i + 1 : Nat) : Int) = rd_T84 X (i : Nat) := by
  unfold rd_T84
  rw [Int.toNat_natCast, Int.toNat_natCast]
  rfl
theorem xidx_some : ∀ {X : Xp} {r : List S53} {i : Nat}, i < X.length → rowV (rd_T84 X i).f0 r = true → (∀ j : Nat, j < i → rowV (rd_T84 X j).f0 r = false) → xidx X r = some i
  | [], _, _, h, _, _ => by simp at h
  | e :: X, r, 0, _, h1, _ => by
    have h1' : rowV e.f0 r = true := h1
    simp [xidx, h1']
  | e :: X, r, i + 1, h0, h1, h2 => by
    have e0 : rowV e.f0 r = false := h2 0 (by omega)
    rw [rd_succ] at h1
    have ih := xidx_some (X := X) (r := r) (i := i) (by simpa using h0) h1 (fun j hj => by
      have := h2 (j + 1) (by omega)
      rwa [rd_succ] at this)
    simp [xidx, e0, ih]
theorem xidx_none : ∀ {X : Xp} {r : List S53}, (∀ j : Nat, j < X.length → rowV (rd_T84 X j).f0 r = false) → xidx X r = none
  | [], _, _ => rfl
  | e :: X, r, h => by
    have e0 : rowV e.f0 r = false := h 0 (by simp)
    have ih := xidx_none (X := X) (r := r) (fun j hj => by
      have := h (j + 1) (by simpa using hj)
      rwa [rd_succ] at this)
    simp [xidx, e0, ih]
/-- The place, as the document's find tells it. -/
def plc : Option Nat → Int
  | some i => i
  | none => -1
/-- Whether two rows are the same. -/
abbrev SameA (W : World) (X : Xp) (A : Option Addr) (m c : Nat) (r : List S53) : Prop := k53.C W A m r ∧ r.length = m ∧ m ≤ c
set_option maxHeartbeats 4000000 in
set_option maxRecDepth 100000 in
theorem find_any {g : Nat} {okX : Nat → Prop} {v : Value} {X : Xp} {r : List S53} (A : Option Addr) (m c : Nat) (W : World) (h : XB W g okX v X) (hr : SameA W X A m c r) (hl : X.length ≤ 1099511627776) :
    Calls Tryd.prog 31 #[.pointer (some ⟨g, 0, none⟩), .slice A m c] W fun e w' => e = .returned (.int .i64 (plc (xidx X r))) ∧ Below W.heap.size W w' := by
  have hu42 := Tryd.underlying42
  have hu84 := Tryd.underlying84
  obtain ⟨hr1, rfl, hr2⟩ := hr
  obtain ⟨A9, c9, rfl, hc9, hC9⟩ := Kd.N_reads h.rows
  have a0 := h.at_.cell
  have HA := Aside0.mk h.at_
  have HC := Aside0.mk hC9
  have HR := Aside0.mk hr1
  have HR2 := Aside0.mk hr2
  have HL := Aside0.mk hl
  clear h hr1 hr2 hC9 hl
  go_enter Tryd.func31, Tryd.ntmps31
  go_wp2
  go_loopg [5] (X.length + 1) (fun kq v5 w' => ∃ i : Nat, v5 = .int .i64 i ∧ Aside0 (kq + i = X.length + 1) ∧ Aside0 (i ≤ X.length) ∧ Aside0 (∀ j : Nat, j < i → rowV (rd_T84 X j).f0 r = false) ∧ Aside0 (Below W.heap.size W w'))
  case atStart => exact ⟨0, by simp, ⟨by omega⟩, ⟨Nat.zero_le _⟩, ⟨fun j hj => by omega⟩, ⟨Below.refl _ _⟩⟩
  case round =>
    obtain ⟨i, rfl, HK, HI, HF, HB⟩ := hrel
    have b0 := (HA.out.below HB.out).cell
    by_cases hlt : i < X.length
    · obtain ⟨k1, rfl⟩ : ∃ k1, gk = k1 + 1 := ⟨gk - 1, by have := HK.out; omega⟩
      have hj0 : (0 : Int) ≤ (i : Int) := by omega
      have hj1 : (i : Int) < (X.length : Int) := by omega
      have hjd : decide ((i : Int) < (X.length : Int)) = true := decide_eq_true hj1
      obtain ⟨ad, A0, c0, rfl, y0, y1, hl0, hC0⟩ := at_T84 (Kd.C_below HC.out HB.out) (i : Int) hj0 hj1
      rw [Int.toNat_natCast] at y0 y1
      have HWN := Aside0.mk (show wrap64 ((i : Int) + 1) = ((i + 1 : Nat) : Int) from wrap_nat (by have := HL.out; omega))
      obtain ⟨K, hK⟩ := rRow_ev (rd_T84 X i).f0 r (by have := hC0.2.1; omega)
      have HS := Aside0.mk (fun (w2 : World) (hb : Below wr.heap.size wr w2) => marqueeref03_SameRow.calls K A0 c0 (rd_T84 X i).f0 A c r _ w2 (Kd.C_below hC0 hb) hl0 (Kd.C_below (Kd.C_below HR.out HB.out) hb) HR2.out (hK K (Nat.le_refl _)))
      obtain ⟨q, hq⟩ : ∃ q, rowV (rd_T84 X i).f0 r = q := ⟨_, rfl⟩
      rw [hq] at HS
      have HQ := Aside0.mk hq
      obtain ⟨x, hx⟩ : ∃ x, rd_T84 X i = x := ⟨_, rfl⟩
      rw [hx] at y0 y1 HS
      clear hx hq hK hC0 hl0
      cases q with
      | true =>
        go_wp2_with (first | (go_at_call 11; refine (HS.out _ (by repeat (first | exact Below.refl _ _ | apply below_alloc | apply pw_below_drewN | apply below_drew1))).mono ?_; rintro e w1 ⟨rfl, hd⟩; have HB1 := Aside0.mk (below_step HB.out hd.below); clear hd))
        go_ret
        exact ⟨by rw [xidx_some hlt HQ.out HF.out]; rfl, HB1.out⟩
      | false =>
        go_wp2_with (first | (go_at_call 11; refine (HS.out _ (by repeat (first | exact Below.refl _ _ | apply below_alloc | apply pw_below_drewN | apply below_drew1))).mono ?_; rintro e w1 ⟨rfl, hd⟩; have HB1 := Aside0.mk (below_step HB.out hd.below); clear hd))
        go_roundg k1
        case measure => omega
        case rel => exact ⟨i + 1, by rw [HWN.out], ⟨by have := HK.out; omega⟩, ⟨by omega⟩, ⟨fun j hj => by
          by_cases e : j = i
          · subst e; exact HQ.out
          · exact HF.out j (by omega)⟩, ⟨HB1.out⟩⟩
    · have hie : i = X.length := by have := HI.out; omega
      have hjd : decide ((i : Int) < (X.length : Int)) = false := decide_eq_false (by omega)
      go_wp2_with fail
      go_ret
      exact ⟨by rw [xidx_none (fun j hj => HF.out j (by omega))]; rfl, HB.out⟩
end Go.Proofs.YtiabggpijomjmaaDoor
namespace Go.Proofs.YtiabggpijomjmaaDoor
open Go.RowKit Print Go.Proofs.YtiabggpijomjmaaDoorW.PrintWords Go.Proofs.YtiabggpijomjmaaDoorW.PrintLast Go.Proofs.YtiabggpijomjmaaDoorW.PrintMore
set_option linter.unusedVariables false
theorem xidx_lt : ∀ {X : Xp} {r : List S53} {i : Nat}, xidx X r = some i → i < X.length
  | [], _, _, h => by simp [xidx] at h
  | e :: X, r, i, h => by
    by_cases c : rowV e.f0 r = true
    · simp [xidx, c] at h; simp; omega
    · simp only [xidx, c] at h
      simp only [Bool.false_eq_true, if_false, Option.map_eq_some_iff] at h
      obtain ⟨j, hj, rfl⟩ := h
      have := xidx_lt hj
      simp; omega
/-- The number of the pair that has the row. -/
def xval (X : Xp) (r : List S53) : Int := match xidx X r with
  | some i => (rd_T84 X i).f1
  | none => 0
set_option maxHeartbeats 2000000 in
set_option maxRecDepth 100000 in
theorem xget_any {g : Nat} {okX : Nat → Prop} {v : Value} {X : Xp} {r : List S53} (A : Option Addr) (m c : Nat) (W : World) (h : XB W g okX v X) (hr : SameA W X A m c r) (hl : X.length ≤ 1099511627776) :
    Calls Tryd.prog 19 #[.pointer (some ⟨g, 0, none⟩), .slice A m c] W fun e w' => e = .returned (.tuple #[.int .i64 (xval X r), .bool (xidx X r).isSome]) ∧ Below W.heap.size W w' := by
  have hu42 := Tryd.underlying42
  have hu84 := Tryd.underlying84
  have HF := Aside0.mk (find_any A m c W h hr hl)
  have HB := Aside0.mk h
  clear h hr hl
  cases hx : xidx X r with
  | none =>
    rw [hx] at HF
    have hv : xval X r = 0 := by unfold xval; rw [hx]
    have hd : decide ((-1 : Int) < 0) = true := by decide
    rw [hv]
    go_enter Tryd.func19, Tryd.ntmps19
    go_wp2_with (first | (go_at_call 31; refine HF.out.mono ?_; rintro e w1 ⟨rfl, hb⟩; simp only [plc]; have HB1 := Aside0.mk hb; clear hb))
    go_ret2
    exact ⟨rfl, HB1.out⟩
  | some i =>
    rw [hx] at HF
    have hv : xval X r = (rd_T84 X i).f1 := by unfold xval; rw [hx]
    have hlt := xidx_lt hx
    have hj0 : (0 : Int) ≤ (i : Int) := by omega
    have hj1 : (i : Int) < (X.length : Int) := by omega
    have hd : decide ((i : Int) < 0) = false := decide_eq_false (by omega)
    rw [hv]
    clear hx hv
    obtain ⟨A9, c9, rfl, hc9, hC9⟩ := Kd.N_reads HB.out.rows
    have HC := Aside0.mk hC9
    clear hC9
    go_enter Tryd.func19, Tryd.ntmps19
    go_wp2_with (first | (go_at_call 31; refine HF.out.mono ?_; rintro e w1 ⟨rfl, hb⟩; simp only [plc]; obtain ⟨ad, A0, c0, rfl, y0, y1, hl0, hC0⟩ := at_T84 (Kd.C_below HC.out hb) (i : Int) hj0 hj1; rw [Int.toNat_natCast] at y0 y1; have b0 := (HB.out.at_.below hb).cell; have HB1 := Aside0.mk hb; clear hb hC0))
    go_ret2
    exact ⟨rfl, HB1.out⟩
theorem below_grown {W wr w2 : World} {row : Option Nat} (hb : Below W.heap.size W wr) (hg : wr.grownBy w2 row) (hr : ∀ k, row = some k → W.heap.size ≤ k) : Below W.heap.size W w2 :=
  K3.to_below hb (K3.of_grown hg (K3.refl wr (fun k => row = some k)) (fun k hk => .inl hk)) hr
theorem FK_row {W : World} {ok : Nat → Prop} {x : S84} {A0 : Option Addr} {c0 : Nat} (hl : x.f0.length ≤ c0) (h : Kd.F k53 W ok A0 x.f0.length x.f0) : Kd.FK kS W ok x.f0 [.slice A0 x.f0.length c0] := fun W' hW => ⟨A0, c0, rfl, hl, h W' hW⟩
/-- Element i of the document's map: its cells, and what they lead to. -/
theorem at_N84 {w : World} {ok : Nat → Prop} {ad : Addr} {n cap : Nat} {X : Xp} (h : Kd.N k84 84 w 0 ok (.slice (some ad) n cap) X) (i : Nat) (hi : i < n) :
    ∃ A0 c0, w.cell? (ad.add (i * 2)) = some (.slice A0 (rd_T84 X i).f0.length c0) ∧ w.cell? ⟨(ad.add (i * 2)).block, (ad.add (i * 2)).off + 1, none⟩ = some (.int .i64 (rd_T84 X i).f1) ∧ (rd_T84 X i).f0.length ≤ c0 ∧ Kd.F k53 w (fun k => ok k ∧ some k ≠ (Value.slice (some ad) n cap).ownBlock) A0 (rd_T84 X i).f0.length (rd_T84 X i).f0 := by
  obtain ⟨c, hcl, hF, hc0⟩ := Kd.N_get h z84 (i : Int) (by omega) (by omega)
  have hc : ∀ j u, c[j]? = some u → w.cell? (ad.add (i * 2 + j)) = some u := by rw [Int.toNat_natCast] at hc0; exact hc0
  have hF' : Kd.FK k84 w (fun k => ok k ∧ some k ≠ (Value.slice (some ad) n cap).ownBlock) (rd_T84 X i) c := hF
  obtain ⟨A0, c0, rfl, l0, g0⟩ := k84_openF hF'
  exact ⟨A0, c0, hc 0 _ rfl, by rw [← add_field _ _ 1 (by omega)]; exact hc 1 _ rfl, l0, g0⟩
set_option maxHeartbeats 2000000 in
set_option maxRecDepth 100000 in
theorem xrows_any {g : Nat} {okX : Nat → Prop} {v : Value} {X : Xp} (W : World) (h : XB W g okX v X) (hl : X.length ≤ 1099511627776) :
    Calls Tryd.prog 23 #[.pointer (some ⟨g, 0, none⟩)] W fun e w' => ∃ A c, e = .returned (.slice A X.length c) ∧ X.length ≤ c ∧ kS.C w' A X.length (X.map (·.f0)) ∧ Below W.heap.size W w' := by
  have hu42 := Tryd.underlying42
  have hu84 := Tryd.underlying84
  obtain ⟨A9, c9, rfl⟩ := Kd.N_slice h.rows
  have a0 := h.at_.cell
  have HX := Aside0.mk h
  have HL := Aside0.mk hl
  clear h hl
  go_enter Tryd.func23, Tryd.ntmps23
  go_wp2
  go_loopg [3, 4] (X.length + 1) (fun kq v3 v4 w' => ∃ i : Nat, v4 = .int .i64 i ∧ Aside0 (kq + i = X.length + 1) ∧ Aside0 (i ≤ X.length) ∧ Aside0 (Kd.N kS 22 w' 0 (fun k => okX k ∨ W.heap.size ≤ k) v3 ((X.map (·.f0)).take i)) ∧ Aside0 (∀ k, v3.ownBlock = some k → W.heap.size ≤ k) ∧ Aside0 (Below W.heap.size W w'))
  case atStart => exact ⟨0, by simp, ⟨by omega⟩, ⟨Nat.zero_le _⟩, ⟨Kd.N_nil _ _ _ _ _⟩, ⟨fun k hk => by simp [Value.ownBlock] at hk⟩, ⟨Below.refl _ _⟩⟩
  case round =>
    obtain ⟨i, rfl, HK, HI, HR, HO, HB⟩ := hrel
    have b0 := (HX.out.at_.below HB.out).cell
    by_cases hlt : i < X.length
    · obtain ⟨k1, rfl⟩ : ∃ k1, gk = k1 + 1 := ⟨gk - 1, by have := HK.out; omega⟩
      have hj0 : (0 : Int) ≤ (i : Int) := by omega
      have hj1 : (i : Int) < (X.length : Int) := by omega
      have hjd : decide ((i : Int) < (X.length : Int)) = true := decide_eq_true hj1
      obtain ⟨ad, rfl⟩ : ∃ ad, A9 = some ad := by
        obtain ⟨g9, cap9, he, _⟩ := Kd.N_form HX.out.rows (by omega)
        injection he with he _ _
        exact ⟨_, he⟩
      obtain ⟨A0, c0, y0, y1, hl0, hF0⟩ := at_N84 (Kd.N_below HX.out.rows HB.out) i hlt
      have HWN := Aside0.mk (show wrap64 ((i : Int) + 1) = ((i + 1 : Nat) : Int) from wrap_nat (by have := HL.out; omega))
      have hts : (X.map (·.f0)).take (i + 1) = (X.map (·.f0)).take i ++ [(rd_T84 X i).f0] := by
        rw [List.take_add_one, List.getElem?_map, List.getElem?_eq_getElem hlt]
        unfold rd_T84
        rw [Int.toNat_natCast, List.getD_eq_getElem?_getD, List.getElem?_eq_getElem hlt]
        rfl
      have HTS := Aside0.mk hts
      have HFK := Aside0.mk (FK_row hl0 hF0)
      obtain ⟨xs, hxs⟩ : ∃ xs, (X.map (·.f0)).take i = xs := ⟨_, rfl⟩
      have HXL : Aside0 ((xs.length + 1) * 24 ≤ 140737488355328) := ⟨by rw [← hxs, List.length_take, List.length_map]; have := HL.out; omega⟩
      rw [hxs] at HR HTS
      obtain ⟨B3, c3, rfl⟩ := Kd.N_slice HR.out
      obtain ⟨x, hx⟩ : ∃ x, rd_T84 X i = x := ⟨_, rfl⟩
      rw [hx] at y0 y1 HTS HFK
      have HOW := Aside0.mk (fun k (hk : okX k ∧ some k ≠ (Value.slice (some ad) X.length c9).ownBlock) => (⟨.inl hk.1, fun e => by have := HO.out k e.symm; have := HX.out.lX k hk.1; omega⟩ : (okX k ∨ W.heap.size ≤ k) ∧ some k ≠ (Value.slice B3 xs.length c3).ownBlock))
      clear hx hxs hts hl0 hF0
      go_wp2_with (first
        | ((with_reducible refine gate_builtin (b := .append) (xs := #[.tmp 14, .tmp 23]) rfl ?_); at_builtin; refine Kd.N_append kS (W := wr) (w0 := wr) 0 rfl (.tmp 14) (.tmp 23) 54 22 (.slice none 0 0) 24 rfl Tryd.underlying54 info54 rfl Nat.zero_lt_one dec24 (.slice B3 xs.length c3) xs x.f0 [.slice A0 x.f0.length c0] (fun k => okX k ∨ W.heap.size ≤ k) _ rfl rfl HFK.out HOW.out ?_ HR.out (Below.refl _ _) (Nat.zero_le _) HXL.out ?_; (· exact fun k hk => .inr (Nat.le_trans HB.out.size hk)); intro v5 w2 ho2 hb2 hg2 hat2; have HO2 := Aside0.mk ho2; have HG2 := Aside0.mk hg2; have HAT := Aside0.mk hat2; clear ho2 hb2 hg2 hat2))
      go_roundg k1
      case measure => omega
      case rel => exact ⟨i + 1, by rw [HWN.out], ⟨by have := HK.out; omega⟩, ⟨by omega⟩, ⟨by rw [HTS.out]; exact HO2.out⟩, ⟨fun k hk => HAT.out.elim (fun e => HO.out k (by rw [← e]; exact hk)) (fun ⟨b, h1, h2⟩ => by rw [h1] at hk; injection hk with hk; have := HB.out.size; omega)⟩, ⟨below_grown HB.out HG2.out HO.out⟩⟩
    · have hie : i = X.length := by have := HI.out; omega
      have hjd : decide ((i : Int) < (X.length : Int)) = false := decide_eq_false (by omega)
      have hR := HR.out
      rw [List.take_of_length_le (by rw [List.length_map]; omega)] at hR
      obtain ⟨B3, c3, rfl, hc3, hC3⟩ := Kd.N_reads hR
      rw [List.length_map] at hc3 hC3 ⊢
      have HC3 := Aside0.mk (And.intro hc3 hC3)
      clear hR hc3 hC3 HR
      go_wp2_with fail
      go_ret
      exact ⟨_, _, rfl, HC3.out.1, HC3.out.2, HB.out⟩
end Go.Proofs.YtiabggpijomjmaaDoor
