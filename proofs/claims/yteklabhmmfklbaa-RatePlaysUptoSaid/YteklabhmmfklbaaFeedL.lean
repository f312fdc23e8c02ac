import Derived.Test.YteklabhmmfklbaaAdvA
namespace Go.Proofs.Yteklabhmmfklbaa
open Go.RowKit Print Go.Proofs.YteklabhmmfklbaaW.PrintWords Go.Proofs.YteklabhmmfklbaaW.PrintLast Go.Proofs.YteklabhmmfklbaaW.PrintMore
attribute [local go_sem] max2_int min2_int max_two min_two
set_option linter.unusedVariables false
set_option linter.unusedSimpArgs false
/-- The delivery that Feed lays ready. -/
def OwnD (w1 : World) (nw : Int) (xs ys : RowsL) (bo : Nat) (wx : World) : Prop :=
  ∃ vx vy, ∃ okN : Nat → Prop, wx.heap[bo]? = some (.cells #[.int .i64 nw, vx, vy] 43 (0, 0)) ∧ kR.R 61 wx 0 okN vx xs ∧ kR.R 61 wx 0 okN vy ys ∧ (∀ k, okN k → w1.heap.size ≤ k ∧ k < wx.heap.size ∧ k ≠ bo) ∧ w1.heap.size ≤ bo ∧ Below w1.heap.size w1 wx
theorem bw1 {w1 w2 : World} (h : Below w1.drew.heap.size w1.drew w2) : Below w1.heap.size w1 w2 := ⟨h.os, h.tape, h.output, h.size, h.block⟩
theorem bw2 {w1 w2 : World} {o : Obj} (h : Below w1.drew.heap.size w1.drew w2) : Below w1.heap.size w1 (w2.alloc o) := below_alloc (bw1 h) o
theorem bw3 {w1 w2 : World} {o : Obj} (h : Below (w1.drew.alloc o).heap.size (w1.drew.alloc o) w2) : Below w1.heap.size w1 w2 := by
  have s1 : (w1.drew.alloc o).heap.size = w1.heap.size + 1 := by rw [World.size_alloc]; rfl
  have al := below_alloc (Below.refl w1.drew.heap.size w1.drew) o
  have s2 := h.size
  exact ⟨h.os.trans al.os, h.tape.trans al.tape, h.output.trans al.output, by omega, fun k hk => (h.block k (by omega)).trans (al.block k hk)⟩
abbrev zD : Obj := .cells #[.int .i64 0, .slice none 0 0, .slice none 0 0] 43
theorem own_last {w1 w2 w3 : World} {nw : Int} {xs ys : RowsL} {v2 v3 : Value} (h2 : Below w1.drew.heap.size w1.drew w2) (h3 : Below w2.heap.size w2 w3) (r2 : kR.R 61 w2 w1.drew.heap.size (fun k => w1.drew.heap.size ≤ k) v2 xs) (r3 : kR.R 61 w3 w2.heap.size (fun k => w2.heap.size ≤ k) v3 ys) :
    OwnD w1 nw xs ys w3.heap.size (w3.alloc (.cells #[.int .i64 nw, v2, v3] 43)) := by
  have s1 : w1.drew.heap.size = w1.heap.size := rfl
  have s2 := h2.size
  have s3 := h3.size
  have al := below_alloc (Below.refl w3.heap.size w3) (.cells #[.int .i64 nw, v2, v3] 43)
  have hsz : (w3.alloc (.cells #[.int .i64 nw, v2, v3] 43)).heap.size = w3.heap.size + 1 := by simp
  refine ⟨v2, v3, fun k => w1.heap.size ≤ k ∧ k < w3.heap.size, by simpa using heap_alloc_new w3 _, ?_, ?_, fun k hk => ⟨hk.1, by rw [hsz]; omega, by omega⟩, by omega, ?_⟩
  · exact Kd.R_below (Kd.R_mono (Kd.R_below (Kd.R_bound (Kd.R_lower r2 (Nat.zero_le _))) h3) (fun k hk => ⟨by have := hk.1; omega, by have := hk.2.2.1; omega⟩)) al
  · exact Kd.R_below (Kd.R_mono (Kd.R_bound (Kd.R_lower r3 (Nat.zero_le _))) (fun k hk => ⟨by have := hk.1; omega, hk.2.2.1⟩)) al
  · exact ⟨h3.os.trans h2.os, h3.tape.trans h2.tape, h3.output.trans h2.output, by rw [hsz]; omega, fun k hk => (al.block k (by omega)).trans ((h3.block k (by omega)).trans (h2.block k hk))⟩
theorem own_set {w3 : World} {bo : Nat} {nw : Int} {v2 v3 : Value} (h : w3.heap[bo]? = some (.cells #[.int .i64 0, .slice none 0 0, .slice none 0 0] 43 (0, 0))) :
    (((w3.setCell ⟨bo, 0, none⟩ (.int .i64 nw)).setCell ⟨bo, 1, none⟩ v2).setCell ⟨bo, 2, none⟩ v3).heap[bo]? = some (.cells #[.int .i64 nw, v2, v3] 43 (0, 0)) := by
  simpa using blk_set (blk_set (blk_set h 0 (.int .i64 nw)) 1 v2) 2 v3
theorem own_sets {w1 w3 : World} {bo : Nat} {nw : Int} {xs ys : RowsL} {v2 v3 : Value} {okN : Nat → Prop} (h : w3.heap[bo]? = some (.cells #[.int .i64 0, .slice none 0 0, .slice none 0 0] 43 (0, 0))) (hb : w1.heap.size ≤ bo) (hB : Below w1.heap.size w1 w3)
    (r2 : kR.R 61 w3 0 okN v2 xs) (r3 : kR.R 61 w3 0 okN v3 ys) (hN : ∀ k, okN k → w1.heap.size ≤ k ∧ k < w3.heap.size ∧ k ≠ bo) :
    OwnD w1 nw xs ys bo (((w3.setCell ⟨bo, 0, none⟩ (.int .i64 nw)).setCell ⟨bo, 1, none⟩ v2).setCell ⟨bo, 2, none⟩ v3) := by
  have hsz : (((w3.setCell ⟨bo, 0, none⟩ (.int .i64 nw)).setCell ⟨bo, 1, none⟩ v2).setCell ⟨bo, 2, none⟩ v3).heap.size = w3.heap.size := by simp [World.setCell]
  have ne : ∀ k, okN k → k ≠ bo := fun k hk => (hN k hk).2.2
  refine ⟨v2, v3, okN, own_set h, Kd.R_far (Kd.R_far (Kd.R_far r2 (p := ⟨bo, 0, none⟩) ne _) (p := ⟨bo, 1, none⟩) ne _) (p := ⟨bo, 2, none⟩) ne _, Kd.R_far (Kd.R_far (Kd.R_far r3 (p := ⟨bo, 0, none⟩) ne _) (p := ⟨bo, 1, none⟩) ne _) (p := ⟨bo, 2, none⟩) ne _, fun k hk => by rw [hsz]; exact hN k hk, hb, ?_⟩
  exact ((hB.setCell (p := ⟨bo, 0, none⟩) hb _).setCell (p := ⟨bo, 1, none⟩) hb _).setCell (p := ⟨bo, 2, none⟩) hb _
theorem own_mid {w1 w2 w3 : World} {nw : Int} {xs ys : RowsL} {v2 v3 : Value} (h2 : Below w1.drew.heap.size w1.drew w2) (h3 : Below (w2.alloc zD).heap.size (w2.alloc zD) w3) (r2 : kR.R 61 w2 w1.drew.heap.size (fun k => w1.drew.heap.size ≤ k) v2 xs) (r3 : kR.R 61 w3 (w2.alloc zD).heap.size (fun k => (w2.alloc zD).heap.size ≤ k) v3 ys) :
    OwnD w1 nw xs ys w2.heap.size (((w3.setCell ⟨w2.heap.size, 0, none⟩ (.int .i64 nw)).setCell ⟨w2.heap.size, 1, none⟩ v2).setCell ⟨w2.heap.size, 2, none⟩ v3) := by
  have s1 : w1.drew.heap.size = w1.heap.size := rfl
  have s2 := h2.size
  have s3 := h3.size
  have hsz : (w2.alloc zD).heap.size = w2.heap.size + 1 := by simp
  have al := below_alloc (Below.refl w2.heap.size w2) zD
  refine own_sets (okN := fun k => w1.heap.size ≤ k ∧ k < w3.heap.size ∧ k ≠ w2.heap.size) ((h3.block _ (by omega)).trans (by simpa using heap_alloc_new w2 zD)) (by omega) ⟨h3.os.trans h2.os, h3.tape.trans h2.tape, h3.output.trans h2.output, by omega, fun k hk => (h3.block k (by omega)).trans ((al.block k (by omega)).trans (h2.block k hk))⟩ ?_ ?_ (fun k hk => hk)
  · exact Kd.R_mono (Kd.R_below (Kd.R_below (Kd.R_bound (Kd.R_lower r2 (Nat.zero_le _))) al) h3) (fun k hk => ⟨by have := hk.1; omega, by have := hk.2.2.1; omega, by have := hk.2.2.1; omega⟩)
  · exact Kd.R_mono (Kd.R_bound (Kd.R_lower r3 (Nat.zero_le _))) (fun k hk => ⟨by have := hk.1; omega, hk.2.2.1, by have := hk.1; omega⟩)
theorem own_first {w1 w2 w3 : World} {nw : Int} {xs ys : RowsL} {v2 v3 : Value} (h2 : Below (w1.drew.alloc zD).heap.size (w1.drew.alloc zD) w2) (h3 : Below w2.heap.size w2 w3) (r2 : kR.R 61 w2 (w1.drew.alloc zD).heap.size (fun k => (w1.drew.alloc zD).heap.size ≤ k) v2 xs) (r3 : kR.R 61 w3 w2.heap.size (fun k => w2.heap.size ≤ k) v3 ys) :
    OwnD w1 nw xs ys w1.heap.size (((w3.setCell ⟨w1.heap.size, 0, none⟩ (.int .i64 nw)).setCell ⟨w1.heap.size, 1, none⟩ v2).setCell ⟨w1.heap.size, 2, none⟩ v3) := by
  have s1 : (w1.drew.alloc zD).heap.size = w1.heap.size + 1 := by rw [World.size_alloc]; rfl
  have s2 := h2.size
  have s3 := h3.size
  have al := below_alloc (Below.refl w1.drew.heap.size w1.drew) zD
  have e1 : w1.drew.heap.size = w1.heap.size := rfl
  refine own_sets (okN := fun k => w1.heap.size ≤ k ∧ k < w3.heap.size ∧ k ≠ w1.heap.size) ((h3.block _ (by omega)).trans ((h2.block _ (by omega)).trans (by simpa using heap_alloc_new w1.drew zD))) (Nat.le_refl _) ⟨h3.os.trans (h2.os.trans al.os), h3.tape.trans (h2.tape.trans al.tape), h3.output.trans (h2.output.trans al.output), by omega, fun k hk => (h3.block k (by omega)).trans ((h2.block k (by omega)).trans (al.block k (by omega)))⟩ ?_ ?_ (fun k hk => hk)
  · exact Kd.R_mono (Kd.R_below (Kd.R_bound (Kd.R_lower r2 (Nat.zero_le _))) h3) (fun k hk => ⟨by have := hk.1; omega, by have := hk.2.2.1; omega, by have := hk.1; omega⟩)
  · exact Kd.R_mono (Kd.R_bound (Kd.R_lower r3 (Nat.zero_le _))) (fun k hk => ⟨by have := hk.1; omega, hk.2.2.1, by have := hk.1; omega⟩)
theorem bcell {W w1 : World} (hb : Below W.heap.size W w1) : (∀ b o, b < W.heap.size → w1.cell? ⟨b, o, none⟩ = W.cell? ⟨b, o, none⟩) ∧ (∀ b o, b < W.heap.size → w1.frozen? ⟨b, o, none⟩ = W.frozen? ⟨b, o, none⟩) :=
  ⟨fun b o h => hb.cell (p := ⟨b, o, none⟩) h, fun b o h => hb.frozen (p := ⟨b, o, none⟩) h⟩
/-- A rate's state and what is told, seen from the call's begin. -/
def FeedI (w : World) (g : Nat) (okI okO : Nat → Prop) (S : St × RowsL × RowsL × List S43) (v : Value) (wz : World) : Prop :=
  ∃ vi vo, ∃ okI' okO' okD : Nat → Prop, Both wz g S.1 okI' okO' vi vo S.2.1 S.2.2.1 ∧ k43.R 43 wz 0 okD v S.2.2.2 ∧ K3 w wz (fun k => k = g ∨ okI k ∨ okO k) ∧
    (∀ k, okI' k → okI k ∨ w.heap.size ≤ k) ∧ (∀ k, okO' k → okO k ∨ w.heap.size ≤ k) ∧ (∀ k, okD k → (okI k ∨ okO k ∨ w.heap.size ≤ k) ∧ k < wz.heap.size ∧ ¬ okI' k ∧ ¬ okO' k)
/-- Ahead of the switch: the own delivery lies ready. -/
structure Pre (w : World) (g bo N : Nat) (s : St) (okI okO okI1 okO1 okD okN : Nat → Prop) (vi vo v vx vy : Value) (ri ro xs ys : RowsL) (ds : List S43) (nw : Int) (W : World) : Prop where
  b : Both W g s okI1 okO1 vi vo ri ro
  d : k43.R 43 W 0 okD v ds
  o : W.heap[bo]? = some (.cells #[.int .i64 nw, vx, vy] 43 (0, 0))
  x : kR.R 61 W 0 okN vx xs
  y : kR.R 61 W 0 okN vy ys
  kI : ∀ k, okI1 k → okI k ∧ k < N
  kO : ∀ k, okO1 k → okO k ∧ k < N
  hD : ∀ k, okD k → (okI k ∨ okO k ∨ w.heap.size ≤ k) ∧ k < N ∧ ¬ okI1 k ∧ ¬ okO1 k
  hN : ∀ k, okN k → N ≤ k ∧ k ≠ bo
  bN : N ≤ bo
  K : K3 w W (fun k => k = g)
  wN : w.heap.size ≤ N
  NW : N ≤ W.heap.size
  gI : ¬ okI g
  gO : ¬ okO g
  glt : g < w.heap.size
section
variable {w : World} {g bo N : Nat} {s : St} {okI okO okI1 okO1 okD okN : Nat → Prop} {vi vo v vx vy : Value} {ri ro xs ys : RowsL} {ds : List S43} {nw : Int} {W W2 w3 : World}
theorem Pre.below (h : Pre w g bo N s okI okO okI1 okO1 okD okN vi vo v vx vy ri ro xs ys ds nw W) (hb : Below W.heap.size W W2) : Pre w g bo N s okI okO okI1 okO1 okD okN vi vo v vx vy ri ro xs ys ds nw W2 :=
  ⟨h.b.below hb, Kd.R_below h.d hb, (hb.block _ (blk_lt h.o)).trans h.o, Kd.R_below h.x hb, Kd.R_below h.y hb, h.kI, h.kO, h.hD, h.hN, h.bN, h.K.below hb, h.wN, Nat.le_trans h.NW hb.size, h.gI, h.gO, h.glt⟩
theorem Pre.gD (h : Pre w g bo N s okI okO okI1 okO1 okD okN vi vo v vx vy ri ro xs ys ds nw W) : ∀ k, okD k → k ≠ g := fun k hk e => by
  have h1 := (h.hD k hk).1
  subst e
  rcases h1 with h1 | h1 | h1
  · exact h.gI h1
  · exact h.gO h1
  · have := h.glt; omega
theorem Pre.told (h : Pre w g bo N s okI okO okI1 okO1 okD okN vi vo v vx vy ri ro xs ys ds nw W) : Pre w g bo N { s with told := true } okI okO okI1 okO1 okD okN vi vo v vx vy ri ro xs ys ds nw (W.setCell ⟨g, 8, none⟩ (.bool true)) := by
  have hsz : (W.setCell ⟨g, 8, none⟩ (.bool true)).heap.size = W.heap.size := by simp [World.setCell]
  have nI : ∀ k, okI1 k → k ≠ g := fun k hk e => h.b.gI (e ▸ hk)
  have nO : ∀ k, okO1 k → k ≠ g := fun k hk e => h.b.gO (e ▸ hk)
  have gN : g < N := Nat.lt_of_lt_of_le h.glt h.wN
  have nN : ∀ k, okN k → k ≠ g := fun k hk e => by have := (h.hN k hk).1; omega
  have hat : At 59 (W.setCell ⟨g, 8, none⟩ (.bool true)) g { s with told := true } vi vo := by simpa [At, cellsP] using blk_set h.b.at_ 8 (.bool true)
  exact ⟨⟨hat, Kd.R_far h.b.hi (p := ⟨g, 8, none⟩) nI _, Kd.R_far h.b.ho (p := ⟨g, 8, none⟩) nO _, h.b.gI, h.b.gO, fun k hk => by rw [hsz]; exact h.b.bI k hk, fun k hk => by rw [hsz]; exact h.b.bO k hk, h.b.dis⟩, Kd.R_far h.d (p := ⟨g, 8, none⟩) h.gD _, blk_far h.o (by have := h.bN; show bo ≠ g; omega) _, Kd.R_far h.x (p := ⟨g, 8, none⟩) nN _, Kd.R_far h.y (p := ⟨g, 8, none⟩) nN _, h.kI, h.kO, h.hD, h.hN, h.bN, h.K.setCell (p := ⟨g, 8, none⟩) (.inl rfl) _, h.wN, by rw [hsz]; exact h.NW, h.gI, h.gO, h.glt⟩
theorem Pre.now (h : Pre w g bo N s okI okO okI1 okO1 okD okN vi vo v vx vy ri ro xs ys ds nw W) : FeedI w g okI okO (s, ri, ro, ds) v W :=
  ⟨vi, vo, okI1, okO1, okD, h.b, h.d, h.K.mono (fun _ e => .inl e), fun k hk => .inl (h.kI k hk).1, fun k hk => .inl (h.kO k hk).1, fun k hk => ⟨(h.hD k hk).1, Nat.lt_of_lt_of_le (h.hD k hk).2.1 h.NW, (h.hD k hk).2.2⟩⟩
theorem Pre.okp (h : Pre w g bo N s okI okO okI1 okO1 okD okN vi vo v vx vy ri ro xs ys ds nw W) : ∀ k, okN k → (okD k ∨ N ≤ k) ∧ some k ≠ v.ownBlock := fun k hk =>
  ⟨.inr (h.hN k hk).1, fun e => by have h1 := (h.hD k (h.d.1 k e.symm)).2.1; have := (h.hN k hk).1; omega⟩
theorem Pre.app (h : Pre w g bo N s okI okO okI1 okO1 okD okN vi vo v vx vy ri ro xs ys ds nw W) {v3 : Value} {l : List S43} (hR : k43.R 43 w3 0 (fun k => okD k ∨ N ≤ k) v3 l) (hg : W.grownBy w3 v.ownBlock) : FeedI w g okI okO (s, ri, ro, l) v3 w3 := by
  have hown : ∀ k, v.ownBlock = some k → okD k := h.d.1
  have hne : some g ≠ v.ownBlock := fun e => h.gD g (hown g e.symm) rfl
  have hK3 : K3 w w3 (fun k => k = g ∨ okI k ∨ okO k) := K3.of_grown hg (h.K.mono (fun _ e => .inl e)) (fun k hk => (h.hD k (hown k hk)).1.elim (fun h' => .inl (.inr (.inl h'))) (fun h' => h'.elim (fun h'' => .inl (.inr (.inr h''))) .inr))
  have hs := hg.size
  refine ⟨vi, vo, okI1, okO1, fun k => (okD k ∨ N ≤ k) ∧ k < w3.heap.size, ⟨(hg.block g h.b.at_.lt hne).trans h.b.at_, Kd.R_grown h.b.hi hg (fun k hk e => (h.hD k (hown k e.symm)).2.2.1 hk), Kd.R_grown h.b.ho hg (fun k hk e => (h.hD k (hown k e.symm)).2.2.2 hk), h.b.gI, h.b.gO, fun k hk => Nat.lt_of_lt_of_le (h.b.bI k hk) hs, fun k hk => Nat.lt_of_lt_of_le (h.b.bO k hk) hs, h.b.dis⟩, Kd.R_mono (Kd.R_bound hR) (fun k hk => ⟨hk.1, hk.2.2.1⟩), hK3, fun k hk => .inl (h.kI k hk).1, fun k hk => .inl (h.kO k hk).1, fun k hk => ?_⟩
  rcases hk with ⟨hk | hk, hlt⟩
  · exact ⟨(h.hD k hk).1, hlt, (h.hD k hk).2.2⟩
  · exact ⟨.inr (.inr (Nat.le_trans h.wN hk)), hlt, fun h' => by have := (h.kI k h').2; omega, fun h' => by have := (h.kO k h').2; omega⟩
end
theorem setCell_size (w : World) (p : Addr) (v : Value) : (w.setCell p v).heap.size = w.heap.size := by simp [World.setCell]
theorem FeedI.len {w : World} {g : Nat} {okI okO : Nat → Prop} {s : St} {ri ro : RowsL} {ds : List S43} {x : S43} {A : Option Addr} {c : Nat} {wz : World} (h : FeedI w g okI okO (s, ri, ro, ds ++ [x]) (.slice A (ds ++ [x]).length c) wz) : FeedI w g okI okO (s, ri, ro, ds ++ [x]) (.slice A (ds.length + 1) c) wz := by
  rwa [List.length_append] at h
theorem Pre.gat {w : World} {g bo N : Nat} {s : St} {okI okO okI1 okO1 okD okN : Nat → Prop} {vi vo v vx vy : Value} {ri ro xs ys ri2 ro2 : RowsL} {ds : List S43} {nw : Int} {W w5 : World} (h : Pre w g bo N s okI okO okI1 okO1 okD okN vi vo v vx vy ri ro xs ys ds nw W) (hg : GatP W g s okI1 okO1 ri2 ro2 w5) :
    FeedI w g okI okO (s, ri2, ro2, ds) v w5 := by
  obtain ⟨vi', vo', okI', okO', hB, hK, hI, hO⟩ := hg
  have hNW := h.NW
  have hwN := h.wN
  refine ⟨vi', vo', okI', okO', okD, hB, K3.R h.d hK (fun k hk e => e.elim (h.gD k hk) (fun e => e.elim (h.hD k hk).2.2.1 (h.hD k hk).2.2.2)), (h.K.mono (fun _ e => .inl e)).then_ hK (fun k e => ?_), fun k hk => ?_, fun k hk => ?_, fun k hk => ⟨(h.hD k hk).1, ?_, fun h' => ?_, fun h' => ?_⟩⟩
  · exact e.elim (fun e => .inl (.inl e)) (fun e => e.elim (fun e => .inl (.inr (.inl (h.kI k e).1))) (fun e => .inl (.inr (.inr (h.kO k e).1))))
  · exact (hI k hk).elim (fun e => .inl (h.kI k e).1) (fun e => .inr (by omega))
  · exact (hO k hk).elim (fun e => .inl (h.kO k e).1) (fun e => .inr (by omega))
  · have := (h.hD k hk).2.1; have := hK.1; omega
  · exact (hI k h').elim (h.hD k hk).2.2.1 (fun e => by have := (h.hD k hk).2.1; omega)
  · exact (hO k h').elim (h.hD k hk).2.2.2 (fun e => by have := (h.hD k hk).2.1; omega)
/-- Behind the switch on the kind (not RateNone). -/
def feedG (R : St × RowsL × RowsL × List S43) (nw : Int) (xs ys : RowsL) : St × RowsL × RowsL × List S43 :=
  if R.1.k = 2 then (if 0 < xs.length + ys.length ∧ R.1.told = false then ({ R.1 with told := true }, R.2.1, R.2.2.1, R.2.2.2 ++ [⟨nw, ⟨xs, ys⟩⟩]) else R)
  else (R.1, gatD R.1.k R.2.1 xs, gatD R.1.k R.2.2.1 ys, R.2.2.2)
/-- Events are counted. -/
def feedE (R : St × RowsL × RowsL × List S43) (nw ev : Int) (all : RowsL) : St × RowsL × RowsL × List S43 :=
  if R.1.t = true then R
  else if R.1.n ≤ mn (R.1.events + mn (mx ev 0) late) late then ({ R.1 with told := false, events := 0 }, [], [], R.2.2.2 ++ endD R.1.k nw R.2.1 R.2.2.1 all)
  else ({ R.1 with events := mn (R.1.events + mn (mx ev 0) late) late }, R.2.1, R.2.2.1, R.2.2.2)
def feedR (R : St × RowsL × RowsL × List S43) (nw ev : Int) (xs ys all : RowsL) : St × RowsL × RowsL × List S43 :=
  if R.1.k = 0 then (R.1, R.2.1, R.2.2.1, if 0 < xs.length + ys.length then R.2.2.2 ++ [⟨nw, ⟨xs, ys⟩⟩] else R.2.2.2)
  else feedE (feedG R nw xs ys) nw ev all
/-- Rows come out. -/
def feed (s : St) (rin rout : RowsL) (now ev : Int) (xs ys all : RowsL) : St × RowsL × RowsL × List S43 :=
  feedR (adv s rin rout (mn (mx now s.clock) late) all) (mn (mx now s.clock) late) ev xs ys all
theorem advL_keeps (f : Nat) : ∀ (s : St) (ri ro all : RowsL) (acc : List S43), (advL f s ri ro all acc).1.k = s.k ∧ (advL f s ri ro all acc).1.n = s.n ∧ (advL f s ri ro all acc).1.t = s.t ∧ (advL f s ri ro all acc).1.events = s.events ∧ (advL f s ri ro all acc).1.clock = s.clock := by
  induction f with
  | zero => intros; exact ⟨rfl, rfl, rfl, rfl, rfl⟩
  | succ f ih =>
    intro s ri ro all acc
    unfold advL
    split
    · exact ⟨rfl, rfl, rfl, rfl, rfl⟩
    · split
      · exact ⟨rfl, rfl, rfl, rfl, rfl⟩
      · exact ih _ _ _ _ _
theorem adv_keeps (s : St) (ri ro : RowsL) (now : Int) (all : RowsL) : (adv s ri ro now all).1.k = s.k ∧ (adv s ri ro now all).1.n = s.n ∧ (adv s ri ro now all).1.t = s.t ∧ (adv s ri ro now all).1.events = s.events := by
  unfold adv
  split
  · exact ⟨rfl, rfl, rfl, rfl⟩
  · split
    · have := advL_keeps FU { s with clock := mn now late } ri ro all []
      exact ⟨this.1, this.2.1, this.2.2.1, this.2.2.2.1⟩
    · exact ⟨rfl, rfl, rfl, rfl⟩
theorem advL_len (f : Nat) : ∀ (s : St) (ri ro all : RowsL) (acc : List S43), (advL f s ri ro all acc).2.2.2.length ≤ acc.length + f := by
  induction f with
  | zero => intros; exact Nat.le_refl _
  | succ f ih =>
    intro s ri ro all acc
    unfold advL
    split
    · exact Nat.le_add_right _ _
    · split
      · exact Nat.le_add_right _ _
      · refine Nat.le_trans (ih _ _ _ _ _) ?_
        rw [List.length_append]
        have := endD_le s.k s.border ri ro all
        omega
theorem advL_rows (f : Nat) : ∀ (s : St) (ri ro all : RowsL) (acc : List S43), ((advL f s ri ro all acc).2.1 = ri ∨ (advL f s ri ro all acc).2.1 = []) ∧ ((advL f s ri ro all acc).2.2.1 = ro ∨ (advL f s ri ro all acc).2.2.1 = []) := by
  induction f with
  | zero => intros; exact ⟨.inl rfl, .inl rfl⟩
  | succ f ih =>
    intro s ri ro all acc
    unfold advL
    split
    · exact ⟨.inl rfl, .inl rfl⟩
    · split
      · exact ⟨.inl rfl, .inl rfl⟩
      · have := ih { s with told := false, border := s.border + s.n } [] [] all (acc ++ endD s.k s.border ri ro all)
        exact ⟨this.1.elim .inr .inr, this.2.elim .inr .inr⟩
theorem adv_rows' (s : St) (ri ro : RowsL) (now : Int) (all : RowsL) : ((adv s ri ro now all).2.1 = ri ∨ (adv s ri ro now all).2.1 = []) ∧ ((adv s ri ro now all).2.2.1 = ro ∨ (adv s ri ro now all).2.2.1 = []) := by
  unfold adv
  split
  · exact ⟨.inl rfl, .inl rfl⟩
  · split
    · exact advL_rows _ _ _ _ _ _
    · exact ⟨.inl rfl, .inl rfl⟩
theorem adv_rows (s : St) (ri ro : RowsL) (now : Int) (all : RowsL) : (adv s ri ro now all).2.1.length ≤ ri.length ∧ (adv s ri ro now all).2.2.1.length ≤ ro.length := by
  have h := adv_rows' s ri ro now all
  refine ⟨?_, ?_⟩
  · rcases h.1 with h | h <;> rw [h] <;> simp
  · rcases h.2 with h | h <;> rw [h] <;> simp
theorem adv_len (s : St) (ri ro : RowsL) (now : Int) (all : RowsL) : (adv s ri ro now all).2.2.2.length ≤ 4002 := by
  unfold adv
  split
  · simp
  · split
    · simpa [FU] using advL_len FU { s with clock := mn now late } ri ro all []
    · simp
theorem feed_room {n : Nat} (h : n ≤ 4002) : (n + 1) * 56 ≤ 140737488355328 := by omega
theorem feedG_keeps (R : St × RowsL × RowsL × List S43) (nw : Int) (xs ys : RowsL) : (feedG R nw xs ys).1.k = R.1.k ∧ (feedG R nw xs ys).1.n = R.1.n ∧ (feedG R nw xs ys).1.t = R.1.t ∧ (feedG R nw xs ys).1.events = R.1.events ∧ (feedG R nw xs ys).2.2.2.length ≤ R.2.2.2.length + 1 := by
  unfold feedG
  split
  · split
    · exact ⟨rfl, rfl, rfl, rfl, by simp⟩
    · exact ⟨rfl, rfl, rfl, rfl, by simp⟩
  · exact ⟨rfl, rfl, rfl, rfl, by simp⟩
theorem Sm.append {a b : RowsL} (ha : Sm a) (hb : Sm b) (h : a.length + b.length ≤ 2097152) : Sm (a ++ b) := ⟨by rw [List.length_append]; exact h, fun x hx => (List.mem_append.1 hx).elim (ha.2 x) (hb.2 x)⟩
theorem Sm.gat {a b : RowsL} (ha : Sm a) (hb : Sm b) (h : a.length + b.length ≤ 2097152) (k : Int) : Sm (gatD k a b) := by
  unfold gatD
  split
  · exact ha.append hb h
  · split
    · split
      · exact ha
      · exact Sm_last hb
    · exact ha
theorem feedG_Sm {R : St × RowsL × RowsL × List S43} {nw : Int} {xs ys : RowsL} (h1 : Sm R.2.1) (h2 : Sm R.2.2.1) (hx : Sm xs) (hy : Sm ys) (hi : R.2.1.length + xs.length ≤ 2097152) (ho : R.2.2.1.length + ys.length ≤ 2097152) : Sm (feedG R nw xs ys).2.1 ∧ Sm (feedG R nw xs ys).2.2.1 := by
  unfold feedG
  split
  · split <;> exact ⟨h1, h2⟩
  · exact ⟨h1.gat hx hi _, h2.gat hy ho _⟩
theorem adv_Sm {s : St} {ri ro : RowsL} (now : Int) (all : RowsL) (h1 : Sm ri) (h2 : Sm ro) : Sm (adv s ri ro now all).2.1 ∧ Sm (adv s ri ro now all).2.2.1 := by
  have h := adv_rows' s ri ro now all
  refine ⟨?_, ?_⟩
  · rcases h.1 with e | e <;> rw [e]
    · exact h1
    · exact Sm.nil
  · rcases h.2 with e | e <;> rw [e]
    · exact h2
    · exact Sm.nil
theorem At.set_events {ty : Nat} {w : World} {g : Nat} {s : St} {vi vo : Value} (h : At ty w g s vi vo) (x : Int) : At ty (w.setCell ⟨g, 5, none⟩ (.int .i64 x)) g { s with events := x } vi vo := by
  simpa [At, cellsP] using blk_set h 5 (.int .i64 x)
theorem FeedI.events {w wz : World} {g : Nat} {okI okO : Nat → Prop} {s : St} {ri ro : RowsL} {ds : List S43} {v : Value} (h : FeedI w g okI okO (s, ri, ro, ds) v wz) (hlt : g < w.heap.size) (hI : ¬ okI g) (hO : ¬ okO g) (x : Int) : FeedI w g okI okO ({ s with events := x }, ri, ro, ds) v (wz.setCell ⟨g, 5, none⟩ (.int .i64 x)) := by
  obtain ⟨vi, vo, okI', okO', okD, hB, hR, hK, h1, h2, h3⟩ := h
  have nI : ∀ k, okI' k → k ≠ g := fun k hk e => hB.gI (e ▸ hk)
  have nO : ∀ k, okO' k → k ≠ g := fun k hk e => hB.gO (e ▸ hk)
  have nD : ∀ k, okD k → k ≠ g := fun k hk e => by
    have := (h3 k hk).1
    subst e
    rcases this with h' | h' | h'
    · exact hI h'
    · exact hO h'
    · omega
  refine ⟨vi, vo, okI', okO', okD, ⟨hB.at_.set_events x, Kd.R_far hB.hi (p := ⟨g, 5, none⟩) nI _, Kd.R_far hB.ho (p := ⟨g, 5, none⟩) nO _, hB.gI, hB.gO, fun k hk => by rw [setCell_size]; exact hB.bI k hk, fun k hk => by rw [setCell_size]; exact hB.bO k hk, hB.dis⟩, Kd.R_far hR (p := ⟨g, 5, none⟩) nD _, hK.setCell (p := ⟨g, 5, none⟩) (.inl (.inl rfl)) _, h1, h2, fun k hk => by rw [setCell_size]; exact h3 k hk⟩
theorem FeedI.below {w wz w1 : World} {g : Nat} {okI okO : Nat → Prop} {S : St × RowsL × RowsL × List S43} {v : Value} (h : FeedI w g okI okO S v wz) (hb : Below wz.heap.size wz w1) : FeedI w g okI okO S v w1 := by
  obtain ⟨vi, vo, okI', okO', okD, hB, hR, hK, h1, h2, h3⟩ := h
  exact ⟨vi, vo, okI', okO', okD, hB.below hb, Kd.R_below hR hb, hK.below hb, h1, h2, fun k hk => ⟨(h3 k hk).1, Nat.lt_of_lt_of_le (h3 k hk).2.1 hb.size, (h3 k hk).2.2⟩⟩
/-- An interval's end: what was told and what is told now. -/
theorem feed_end {w w5 w6 w7 : World} {g : Nat} {okI okO okI' okO' okD : Nat → Prop} {s : St} {ri ro : RowsL} {ds l : List S43} {v v7 vi vo : Value} (hlt : g < w.heap.size) (hgI : ¬ okI g) (hgO : ¬ okO g) (hB : Both w5 g s okI' okO' vi vo ri ro) (hR : k43.R 43 w5 0 okD v ds) (hK : K3 w w5 (fun k => k = g ∨ okI k ∨ okO k))
    (h1 : ∀ k, okI' k → okI k ∨ w.heap.size ≤ k) (h2 : ∀ k, okO' k → okO k ∨ w.heap.size ≤ k) (h3 : ∀ k, okD k → (okI k ∨ okO k ∨ w.heap.size ≤ k) ∧ k < w5.heap.size ∧ ¬ okI' k ∧ ¬ okO' k)
    (hA6 : At 59 w6 g { s with told := false } nilV nilV) (hK6 : K3 w5 w6 (fun k => k = g)) (hR7 : k43.R 43 w7 0 (fun k => okD k ∨ (okI' k ∨ okO' k) ∨ w5.heap.size ≤ k) v7 l) (hg7 : w6.grownBy w7 v.ownBlock) (x : Int) :
    FeedI w g okI okO ({ s with told := false, events := x }, [], [], l) v7 (w7.setCell ⟨g, 5, none⟩ (.int .i64 x)) := by
  have hgD : ∀ k, okD k → k ≠ g := fun k hk e => by
    have := (h3 k hk).1
    subst e
    rcases this with h' | h' | h'
    · exact hgI h'
    · exact hgO h'
    · omega
  have hne : some g ≠ v.ownBlock := fun e => hgD g (hR.1 g e.symm) rfl
  have hA7 : At 59 w7 g { s with told := false } nilV nilV := (hg7.block g hA6.lt hne).trans hA6
  have hK7 : K3 w w7 (fun k => k = g ∨ okI k ∨ okO k) := K3.of_grown hg7 (hK.then_ hK6 (fun k e => .inl (.inl e))) (fun k hk => ((h3 k (hR.1 k hk)).1).elim (fun h' => .inl (.inr (.inl h'))) (fun h' => h'.elim (fun h'' => .inl (.inr (.inr h''))) .inr))
  have hs := hK.1
  have nD : ∀ k, (okD k ∨ (okI' k ∨ okO' k) ∨ w5.heap.size ≤ k) → k ≠ g := fun k hk e => by
    rcases hk with h' | (h' | h') | h'
    · exact hgD k h' e
    · exact hB.gI (e ▸ h')
    · exact hB.gO (e ▸ h')
    · omega
  refine ⟨nilV, nilV, fun _ => False, fun _ => False, fun k => (okD k ∨ (okI' k ∨ okO' k) ∨ w5.heap.size ≤ k) ∧ k < w7.heap.size, ⟨hA7.set_events x, Kd.R_nil _ _ _ _ _, Kd.R_nil _ _ _ _ _, fun h => h, fun h => h, fun _ h => h.elim, fun _ h => h.elim, fun _ h => h.elim⟩, Kd.R_far (Kd.R_mono (Kd.R_bound hR7) (fun k hk => ⟨hk.1, hk.2.2.1⟩)) (p := ⟨g, 5, none⟩) (fun k hk => nD k hk.1) _, hK7.setCell (p := ⟨g, 5, none⟩) (.inl (.inl rfl)) _, fun _ h => h.elim, fun _ h => h.elim, fun k hk => ⟨?_, by rw [setCell_size]; exact hk.2, fun h => h, fun h => h⟩⟩
  rcases hk.1 with h' | (h' | h') | h'
  · exact (h3 k h').1
  · exact (h1 k h').elim .inl (fun h => .inr (.inr h))
  · exact (h2 k h').elim (fun h => .inr (.inl h)) (fun h => .inr (.inr h))
  · exact .inr (.inr (Nat.le_trans hs h'))
theorem feed_room2 {n l : Nat} (h : n ≤ 4003) (hl : l ≤ 1) : (n + l) * 56 ≤ 140737488355328 := by omega
theorem feed_ne {w w5 : World} {okI okO okI3 okO3 okD3 : Nat → Prop} {v : Value} {ds : List S43} (h : k43.R 43 w5 0 okD3 v ds) (hD : ∀ k, okD3 k → (okI k ∨ okO k ∨ w.heap.size ≤ k) ∧ k < w5.heap.size ∧ ¬ okI3 k ∧ ¬ okO3 k) : ∀ k, ((okI3 k ∨ okO3 k) ∨ w5.heap.size ≤ k) → some k ≠ v.ownBlock := fun k hk e => by
  have h1 := hD k (h.1 k e.symm)
  rcases hk with (h' | h') | h'
  · exact h1.2.2.1 h'
  · exact h1.2.2.2 h'
  · omega
theorem loop_at3 {ty : Nat} {w w2 : World} {g : Nat} {s : St} {vi vo v : Value} (h : At ty w g s vi vo) (hg : w.grownBy w2 v.ownBlock) (hne : some g ≠ v.ownBlock) : At ty w2 g s vi vo := (hg.block g h.lt hne).trans h
theorem FeedI.len2 {w : World} {g : Nat} {okI okO : Nat → Prop} {s : St} {ri ro : RowsL} {ds l : List S43} {A : Option Addr} {c : Nat} {wz : World} (h : FeedI w g okI okO (s, ri, ro, ds ++ l) (.slice A (ds ++ l).length c) wz) : FeedI w g okI okO (s, ri, ro, ds ++ l) (.slice A (ds.length + l.length) c) wz := by
  rwa [List.length_append] at h
end Go.Proofs.Yteklabhmmfklbaa
