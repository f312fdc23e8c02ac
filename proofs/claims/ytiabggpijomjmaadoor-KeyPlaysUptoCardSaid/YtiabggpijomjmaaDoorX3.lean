import Derived.Test.YtiabggpijomjmaaDoorXA
import Derived.Deep.RegionHeld3
import Derived.Deep.RegionLaw
namespace Go.Proofs.YtiabggpijomjmaaDoor
open Go.RowKit Print Go.Proofs.YtiabggpijomjmaaDoorW.PrintWords Go.Proofs.YtiabggpijomjmaaDoorW.PrintLast Go.Proofs.YtiabggpijomjmaaDoorW.PrintMore
set_option linter.unusedVariables false
/-- What a method that writes leaves. -/
def XPost (W : World) (g : Nat) (okX : Nat → Prop) (X' : Xp) (w' : World) : Prop :=
  ∃ (okX' : Nat → Prop) (v' : Value), XB w' g okX' v' X' ∧ K3 W w' (fun k => k = g ∨ okX k) ∧ ∀ k, okX' k → okX k ∨ W.heap.size ≤ k
theorem REnc {k : Nat} {A : Option Addr} {m c : Nat} {r : List S53} {s : ByteArray} {er : Int} {W : World} {X : Xp} (hr : SameA W X A m c r) (h : marqueeref04_Encode.f k r = some (s, er)) :
    Calls Tryd.prog 8 #[.slice A m c] W fun e w' => e = .returned (.tuple #[.string s, .int .i64 er]) ∧ Below W.heap.size W w' := by
  obtain ⟨h1, rfl, h2⟩ := hr
  exact marqueeref04_Encode.calls k A c r s er W h1 h2 h
theorem SameA.below {W w1 : World} {X : Xp} {A : Option Addr} {m c : Nat} {r : List S53} (h : SameA W X A m c r) (hb : Below W.heap.size W w1) : SameA w1 X A m c r := ⟨Kd.C_below h.1 hb, h.2⟩
set_option maxHeartbeats 2000000 in
set_option maxRecDepth 100000 in
theorem xadd_bad {g k : Nat} {X : Xp} {r : List S53} {s : ByteArray} {er : Int} (A : Option Addr) (m c : Nat) (n : Int) (W : World) (hr : SameA W X A m c r) (h : marqueeref04_Encode.f k r = some (s, er)) (he : er ≠ 0) :
    Calls Tryd.prog 15 #[.pointer (some ⟨g, 0, none⟩), .slice A m c, .int .i64 n] W fun e w' => e = .returned (.tuple #[.int .i64 0, .int .i64 er]) ∧ Below W.heap.size W w' := by
  have HE := Aside0.mk (REnc hr h)
  have he1 : (er == 0) = false := beq_eq_false_iff_ne.2 he
  have he2 : (er = 0) = False := eq_false he
  clear hr h he
  go_enter Tryd.func15, Tryd.ntmps15
  go_wp2_with (first | (go_at_call 8; refine HE.out.mono ?_; rintro e w1 ⟨rfl, hb⟩; have HB1 := Aside0.mk hb; clear hb))
  go_ret2
  exact ⟨rfl, HB1.out⟩
theorem xadd_end {W w1 w2 : World} {g : Nat} {okX : Nat → Prop} {v v2 : Value} {X R : Xp} (h : XB W g okX v X) (hw1 : Below W.heap.size W w1) (hR : Kd.N k84 84 w2 0 (fun k => okX k ∨ W.heap.size ≤ k) v2 R) (hg : w1.grownBy w2 v.ownBlock) : XPost W g okX R (w2.setCell ⟨g, 0, none⟩ v2) := by
  have g0 := h.at_.lt
  have k2 : K3 W w2 (fun k => okX k) := K3.of_grown hg (K3.of_below hw1 _) (fun k hk => .inl (h.rows.1 k hk))
  have k3 : K3 W (w2.setCell ⟨g, 0, none⟩ v2) (fun k => k = g ∨ okX k) := (k2.mono (fun k hk => .inr hk)).setCell (p := ⟨g, 0, none⟩) (.inl (.inl rfl)) _
  have hsz2 : (w2.setCell ⟨g, 0, none⟩ v2).heap.size = w2.heap.size := by simp [World.setCell]
  refine ⟨fun k => (okX k ∨ W.heap.size ≤ k) ∧ k < w2.heap.size, v2, ⟨(h.at_.kept k2 h.gX).set v2, ?_, fun hk => hk.1.elim h.gX (fun h' => by omega), fun k hk => by rw [hsz2]; exact hk.2⟩, k3, fun k hk => hk.1⟩
  exact Kd.N_far (Kd.N_bound hR) (p := ⟨g, 0, none⟩) (fun k hk e => by
    have e' : k = g := e
    subst e'
    exact hk.1.elim h.gX (fun h' => by omega)) _
theorem info84 : (Tryd.prog.info? 84).map (fun i => (i.zero, i.size, i.bytes)) = some (some (.agg #[.slice none 0 0, .int .i64 0]), 2, 32) := by kernel_rfl
theorem dec84 : 0 < k84.sz := Nat.zero_lt_two
theorem dec32 : 0 < 32 := by decide
theorem xpair {w3 : World} {base : Nat} {r : List S53} {A3 : Option Addr} {c3 : Nat} (n : Int) (h : k53.R 53 w3 base (fun _ => True) (.slice A3 r.length c3) r) : Kd.FK k84 w3 (fun k => base ≤ k ∧ k < w3.heap.size) ⟨r, n⟩ [.slice A3 r.length c3, .int .i64 n] :=
  k84_mkF w3 _ ⟨r, n⟩ (Kd.R_reads' h).2.1 (Kd.R_F (Kd.R_mono (Kd.R_bound h) (fun k hk => ⟨hk.2.1, hk.2.2.1⟩)))
theorem xpair_ok {W w2 w3 : World} {g : Nat} {okX : Nat → Prop} {v : Value} {X : Xp} (h : XB W g okX v X) (hb : Below W.heap.size W w2) : ∀ k, (w2.heap.size ≤ k ∧ k < w3.heap.size) → (okX k ∨ W.heap.size ≤ k) ∧ some k ≠ v.ownBlock :=
  fun k hk => ⟨.inr (Nat.le_trans hb.size hk.1), fun e => by have := h.lX k (h.rows.1 k e.symm); have := hb.size; omega⟩
set_option maxHeartbeats 4000000 in
set_option maxRecDepth 100000 in
theorem xadd_new {g k : Nat} {okX : Nat → Prop} {v : Value} {X : Xp} {r : List S53} {s : ByteArray} (A : Option Addr) (m c : Nat) (n : Int) (W : World) (hX : XB W g okX v X) (hr : SameA W X A m c r) (h : marqueeref04_Encode.f k r = some (s, 0)) (hl : X.length ≤ 1099511627776) (hrl : r.length ≤ 1099511627776) (hx : xidx X r = none) :
    Calls Tryd.prog 15 #[.pointer (some ⟨g, 0, none⟩), .slice A m c, .int .i64 n] W fun e w' => e = .returned (.tuple #[.int .i64 n, .int .i64 0]) ∧ XPost W g okX (X ++ [⟨r, n⟩]) w' := by
  have hu42 := Tryd.underlying42
  have hu84 := Tryd.underlying84
  obtain ⟨A9, c9, rfl⟩ := Kd.N_slice hX.rows
  have HE := Aside0.mk (REnc hr h)
  have HF := Aside0.mk (fun w1 (hb : Below W.heap.size W w1) => by have := find_any A m c w1 (hX.below hb) (hr.below hb) hl; rw [hx] at this; exact this)
  have HX := Aside0.mk hX
  have HR := Aside0.mk hr
  have HL := Aside0.mk (And.intro hl hrl)
  have hd : decide ((-1 : Int) < 0) = true := by decide
  clear hX hr h hl hrl hx
  go_enter Tryd.func15, Tryd.ntmps15
  go_upto_region 7 with (first
    | (go_at_call 8; refine HE.out.mono ?_; rintro e w1 ⟨rfl, hb⟩; have HB1 := Aside0.mk hb; clear hb)
    | (go_at_call 31; refine (HF.out _ HB1.out).mono ?_; rintro e w2 ⟨rfl, hb⟩; simp only [plc]; have HB2 := Aside0.mk (below_step HB1.out hb); clear hb))
  have b0 := (HX.out.at_.below HB2.out).cell
  have hC := (HR.out.below HB2.out).1
  have hrm := HR.out.2.1
  subst hrm
  have HC := Aside0.mk hC
  have HRL : Aside0 ((([] : List S53).length + r.length) * 32 ≤ 140737488355328) := ⟨by have := HL.out.2; simp; omega⟩
  have HSZ : Aside0 (w2.heap.size ≤ w2.drew.heap.size) := ⟨Nat.le_refl _⟩
  have HXL : Aside0 ((X.length + 1) * 32 ≤ 140737488355328) := ⟨by have := HL.out.1; omega⟩
  have NE : Aside0 (some g ≠ (Value.slice A9 X.length c9).ownBlock) := ⟨fun e => HX.out.gX (HX.out.rows.1 g e.symm)⟩
  clear hC
  go_region_law (first
    | (refine Kd.N_append_step k84 (W := w3) (w0 := w3) 0 rfl (.tmp 30) (.tmp 36) 40 84 (.agg #[.slice none 0 0, .int .i64 0]) 32 rfl Tryd.underlying40 info84 rfl dec84 dec32 (.slice A9 X.length c9) X ⟨r, n⟩ [.slice A3 r.length c3, .int .i64 n] (fun k => okX k ∨ W.heap.size ≤ k) _ rfl rfl (xpair n HO3.out) (xpair_ok HX.out HB2.out) ?_ ?_ (Below.refl _ _) (Nat.zero_le _) HXL.out ?_; (· exact fun k hk => .inr (Nat.le_trans (below_size HB3.out) hk)); (· exact Kd.N_mono (Kd.N_below HX.out.rows HB3.out) (fun _ h => .inl h)); intro v4 w4 ho hb hg hat; obtain ⟨A4, c4, rfl⟩ := Kd.N_slice ho; rw [List.length_append, List.length_singleton] at ho ⊢; have HO4 := Aside0.mk ho; have HG4 := Aside0.mk hg; have y4 : w4.cell? ⟨g, 0, none⟩ = some (.slice A9 X.length c9) := cell_grown hg y3 NE.out; have q4 : w4.frozen? ⟨g, 0, none⟩ = false := XAt.frozen (blk_grown (HX.out.at_.below HB3.out) hg NE.out) 0; clear ho hb hg hat)
    | (refine Kd.R_append_rows_step k53 (W := w2.drew) (w0 := w2.drew) w2.heap.size rfl (.tmp 31) (.tmp 32) 22 53 (.agg #[.int .i64 0, .int .i64 0, .string ⟨#[]⟩]) 32 rfl Tryd.underlying22 info53 rfl ?_ ?_ (.slice none 0 0) ([] : List S53) r _ _ _ (fun _ => True) (fun _ => False) rfl rfl ?_ HC.out (fun _ _ h => h) (fun _ h => False.elim h) (fun _ _ => trivial) ?_ HSZ.out HRL.out ?_; (· decide); (· decide); (· exact Kd.R_nil _ _ _ _ _); (· exact Below.refl _ _); intro v3 w3 ho hb hg hat; rw [List.nil_append] at ho; obtain ⟨A3, c3, rfl⟩ := Kd.R_slice ho; have HO3 := Aside0.mk ho; have HB3 := Aside0.mk (below_then (below_drew1 HB2.out) (below_size (below_drew1 HB2.out)) (show Below w2.drew.heap.size w2.drew w3 from hb)); have y3 := (HX.out.at_.below HB3.out).cell; have q3 := (HX.out.at_.below HB3.out).frozen 0; have yA := (HX.out.at_.below (below_alloc HB3.out (.cells #[.slice A3 r.length c3, .int .i64 n] 84))).cell; clear ho hb hg hat))
  all_goals go_wp2_with fail
  all_goals go_ret2
  all_goals exact ⟨rfl, by simpa using xadd_end HX.out HB3.out HO4.out HG4.out⟩
end Go.Proofs.YtiabggpijomjmaaDoor
