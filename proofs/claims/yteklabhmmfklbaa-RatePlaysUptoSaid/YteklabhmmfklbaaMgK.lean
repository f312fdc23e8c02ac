import Derived.Test.YteklabhmmfklbaaPx0
import Derived.Test.YteklabhmmfklbaaPx2
import Derived.Test.YteklabhmmfklbaaPx4
import Derived.Outline
import Derived.Test.YteklabhmmfklbaaPx3
namespace Go.Proofs.Yteklabhmmfklbaa
open Go.RowKit Print Go.Proofs.YteklabhmmfklbaaW.PrintWords Go.Proofs.YteklabhmmfklbaaW.PrintLast Go.Proofs.YteklabhmmfklbaaW.PrintMore
set_option linter.unusedVariables false
/-! ### What a call keeps: all but the blocks of S and what is new; and nothing is told to the outer world -/
structure K3 (w W : World) (S : Nat → Prop) : Prop where
  size : w.heap.size ≤ W.heap.size
  block : ∀ i, i < w.heap.size → ¬ S i → W.heap[i]? = w.heap[i]?
  os : W.os = w.os
  tape : W.tape = w.tape
  output : W.output = w.output
namespace K3
variable {w W W2 : World} {S S2 S' : Nat → Prop}
theorem kept (h : K3 w W S) : Kept w W S := ⟨h.size, h.block⟩
theorem refl (w : World) (S : Nat → Prop) : K3 w w S := ⟨Nat.le_refl _, fun _ _ _ => rfl, rfl, rfl, rfl⟩
theorem of_below (h : Below w.heap.size w W) (S : Nat → Prop) : K3 w W S := ⟨h.size, fun i hi _ => h.block i hi, h.os, h.tape, h.output⟩
theorem mono (h : K3 w W S) (hs : ∀ k, S k → S' k) : K3 w W S' := ⟨h.1, fun i hi hn => h.2 i hi (fun hk => hn (hs i hk)), h.os, h.tape, h.output⟩
theorem then_ (h : K3 w W S) (k : K3 W W2 S2) (hs : ∀ k, S2 k → S k ∨ w.heap.size ≤ k) : K3 w W2 S :=
  ⟨Nat.le_trans h.1 k.1, (h.kept.then_ k.kept hs).2, k.os.trans h.os, k.tape.trans h.tape, k.output.trans h.output⟩
theorem of_grown {row : Option Nat} (hg : W.grownBy W2 row) (h : K3 w W S) (hr : ∀ k, row = some k → S k ∨ w.heap.size ≤ k) : K3 w W2 S :=
  h.then_ (S2 := fun k => row = some k) ⟨hg.size, fun i hi hn => hg.block i hi (fun he => hn he.symm), hg.os, hg.tape, hg.output⟩ hr
theorem below (h : K3 w W S) (hb : Below W.heap.size W W2) : K3 w W2 S := h.then_ (of_below hb (fun _ => False)) (fun _ hk => hk.elim)
theorem alloc (h : K3 w W S) (o : Obj) : K3 w (W.alloc o) S := h.below (below_alloc (Below.refl _ _) o)
theorem drew (h : K3 w W S) : K3 w W.drew S := ⟨h.1, h.2, h.os, h.tape, h.output⟩
theorem drewN (h : K3 w W S) (m : Nat) : K3 w (W.drewN m) S := ⟨h.1, h.2, h.os, h.tape, h.output⟩
theorem setCell (h : K3 w W S) {p : Addr} (hp : S p.block ∨ w.heap.size ≤ p.block) (u : Value) : K3 w (W.setCell p u) S :=
  h.then_ (S2 := fun k => k = p.block) ⟨by simp [World.setCell], fun i _ hn => Below.heap_setCell W p u i hn, rfl, rfl, rfl⟩ (fun k hk => by rw [hk]; exact hp)
theorem R {α : Type} {d : Kd α} {e base : Nat} {ok : Nat → Prop} {v : Value} {xs : List α} (h : d.R e W base ok v xs) (hk : K3 W W2 S) (hne : ∀ k, ok k → ¬ S k) : d.R e W2 base ok v xs := Kd.R_kept h hk.kept hne
theorem F {α : Type} {d : Kd α} {n : Nat} {ok : Nat → Prop} {A : Option Addr} {xs : List α} (h : Kd.F d W ok A n xs) (hk : K3 W W2 S) (hne : ∀ k, ok k → ¬ S k) : Kd.F d W2 ok A n xs := Kd.F_kept h hk.kept hne
theorem blk {g : Nat} {o : Obj} (hb : W.heap[g]? = some o) (hk : K3 W W2 S) (hne : ¬ S g) : W2.heap[g]? = some o := blk_kept hb hk.kept hne
/-- Nothing elder than w0 was touched. -/
theorem to_below {w0 : World} (h0 : Below w0.heap.size w0 w) (h : K3 w W S) (hs : ∀ k, S k → w0.heap.size ≤ k) : Below w0.heap.size w0 W :=
  ⟨h.os.trans h0.os, h.tape.trans h0.tape, h.output.trans h0.output, Nat.le_trans h0.size h.size, fun k hk => (h.block k (Nat.lt_of_lt_of_le hk h0.size) (fun h' => by have := hs k h'; omega)).trans (h0.block k hk)⟩
end K3
end Go.Proofs.Yteklabhmmfklbaa
namespace Go.Proofs.Yteklabhmmfklbaa
open Go.RowKit Print Go.Proofs.YteklabhmmfklbaaW.PrintWords Go.Proofs.YteklabhmmfklbaaW.PrintLast Go.Proofs.YteklabhmmfklbaaW.PrintMore
set_option linter.unusedVariables false
/-! ### A rate in memory -/
/-- What a rate's block holds, but for its rows. -/
structure St where
  k : Int
  n : Int
  t : Bool
  clock : Int
  border : Int
  events : Int
  told : Bool
def cellsP (s : St) (vi vo : Value) : Array Value := #[.int .i64 s.k, .int .i64 s.n, .bool s.t, .int .i64 s.clock, .int .i64 s.border, .int .i64 s.events, vi, vo, .bool s.told]
/-- Block g is a rate (of type ty) that holds s and the two rows. -/
def At (ty : Nat) (w : World) (g : Nat) (s : St) (vi vo : Value) : Prop := w.heap[g]? = some (.cells (cellsP s vi vo) ty (0, 0))
section
variable {ty : Nat} {w w1 : World} {g : Nat} {s : St} {vi vo : Value}
theorem At.cells (h : At ty w g s vi vo) : w.cell? ⟨g, 0, none⟩ = some (.int .i64 s.k) ∧ w.cell? ⟨g, 1, none⟩ = some (.int .i64 s.n) ∧ w.cell? ⟨g, 2, none⟩ = some (.bool s.t) ∧ w.cell? ⟨g, 3, none⟩ = some (.int .i64 s.clock) ∧ w.cell? ⟨g, 4, none⟩ = some (.int .i64 s.border) ∧ w.cell? ⟨g, 5, none⟩ = some (.int .i64 s.events) ∧ w.cell? ⟨g, 6, none⟩ = some vi ∧ w.cell? ⟨g, 7, none⟩ = some vo ∧ w.cell? ⟨g, 8, none⟩ = some (.bool s.told) :=
  ⟨(blk_cell h 0).trans rfl, (blk_cell h 1).trans rfl, (blk_cell h 2).trans rfl, (blk_cell h 3).trans rfl, (blk_cell h 4).trans rfl, (blk_cell h 5).trans rfl, (blk_cell h 6).trans rfl, (blk_cell h 7).trans rfl, (blk_cell h 8).trans rfl⟩
theorem At.frozen (h : At ty w g s vi vo) (i : Nat) : w.frozen? ⟨g, i, none⟩ = false := blk_frozen h i
theorem At.lt (h : At ty w g s vi vo) : g < w.heap.size := blk_lt h
theorem At.kept {S : Nat → Prop} (h : At ty w g s vi vo) (hk : K3 w w1 S) (hn : ¬ S g) : At ty w1 g s vi vo := K3.blk h hk hn
theorem At.below (h : At ty w g s vi vo) (hb : Below w.heap.size w w1) : At ty w1 g s vi vo := (hb.block g h.lt).trans h
end
/-- Whether there are rows: their numbers alone count. -/
theorem some_any (A0 : Option Addr) (n0 c0 : Nat) (A1 : Option Addr) (n1 c1 : Nat) (b : Bool) (w : World) (h0 : n0 ≤ 4398046511104) (h1 : n1 ≤ 4398046511104) (hb : decide (0 < n0 + n1) = b) :
    Calls Try.prog 28 #[.agg #[.slice A0 n0 c0, .slice A1 n1 c1]] w fun e w' => e = .returned (.bool b) ∧ Below w.heap.size w w' := by
  have hu31 := Try.underlying31
  subst hb
  have hd : decide ((n0 : Int) + (n1 : Int) > 0) = decide (0 < n0 + n1) := by
    rw [Bool.eq_iff_iff]; simp; omega
  by_cases c : 0 < n0 + n1
  · have hd' : decide ((0 : Int) < (n0 : Int) + (n1 : Int)) = true := decide_eq_true (by omega)
    rw [decide_eq_true c]
    clear hd c
    go_enter Try.func28, Try.ntmps28
    go_wp2
    go_ret
    exact ⟨by simp, by repeat (first | exact Below.refl _ _ | apply below_alloc | apply pw_below_drewN | apply below_drew1)⟩
  · have hd' : decide ((0 : Int) < (n0 : Int) + (n1 : Int)) = false := decide_eq_false (by omega)
    rw [decide_eq_false c]
    clear hd c
    go_enter Try.func28, Try.ntmps28
    go_wp2
    go_ret
    exact ⟨by simp, by repeat (first | exact Below.refl _ _ | apply below_alloc | apply pw_below_drewN | apply below_drew1)⟩
end Go.Proofs.Yteklabhmmfklbaa
namespace Go.Proofs.Yteklabhmmfklbaa
open Go.RowKit Print Go.Proofs.YteklabhmmfklbaaW.PrintWords Go.Proofs.YteklabhmmfklbaaW.PrintLast Go.Proofs.YteklabhmmfklbaaW.PrintMore
set_option linter.unusedVariables false
theorem w64 {x : Int} (h : -9223372036854775808 ≤ x ∧ x ≤ 9223372036854775807) : wrap64 x = x := by unfold wrap64; omega
theorem getD_get {α : Type} (l : List α) (z : α) (i : Nat) (h : i < l.length) : l.getD i z = l[i] := by rw [List.getD_eq_getElem?_getD, List.getElem?_eq_getElem h]; rfl
abbrev kR : Kd (List S68) := Kd.slice 68 k68
/-- Rows of no great number. -/
def Sm (l : List (List S68)) : Prop := l.length ≤ 2097152 ∧ ∀ x ∈ l, x.length ≤ 2097152
theorem Sm.nil : Sm [] := ⟨Nat.zero_le _, fun x h => by cases h⟩
/-- Rows copied are the rows. -/
theorem copied_l0 (l : List (List S68)) (hs : Sm l) (d : Nat) : ∀ i, i + d = l.length → ∀ k, d < k → rate_copied.l0 k (l.take i) l (l.length : Int) (i : Int) = some l := by
  obtain ⟨hl, hr⟩ := hs
  induction d with
  | zero =>
    intro i hi k hk
    obtain ⟨k, rfl⟩ : ∃ m, k = m + 1 := ⟨k - 1, by omega⟩
    simp only [rate_copied.l0]
    rw [if_neg (by omega), List.take_of_length_le (by omega)]
  | succ d ih =>
    intro i hi k hk
    obtain ⟨k, rfl⟩ : ∃ m, k = m + 1 := ⟨k - 1, by omega⟩
    have e1 : wrap64 ((i : Int) + 1) = ((i + 1 : Nat) : Int) := by rw [w64 ⟨by omega, by omega⟩]; omega
    have hx : rd_L3 l (i : Int) = l[i]'(by omega) := by unfold rd_L3; rw [Int.toNat_natCast]; exact getD_get l _ i (by omega)
    have hc : api_Value.f (l[i]'(by omega)) = some (l[i]'(by omega)) := by unfold api_Value.f; rw [if_pos (by have := hr _ (List.getElem_mem (show i < l.length by omega)); omega)]
    have := ih (i + 1) (by omega) k (by omega)
    rw [List.take_succ_eq_append_getElem (by omega)] at this
    simp only [rate_copied.l0]
    have hlt : (l.take i).length < 5864062014805 := by rw [List.length_take]; omega
    rw [if_pos (by omega), if_pos (by omega), if_pos (by omega), hx, hc, Option.bind_some, if_pos hlt, e1]
    exact this
theorem copied_eq (l : List (List S68)) (hs : Sm l) : rate_copied.f (l.length + 1) l = some l := by
  have := copied_l0 l hs l.length 0 (by omega) (l.length + 1) (by omega)
  simpa [rate_copied.f] using this
theorem copied_any (A : Option Addr) (c : Nat) (l : List (List S68)) (w : World) (h : kR.C w A l.length l) (hc : l.length ≤ c) (hs : Sm l) :
    Calls Try.prog 27 #[.slice A l.length c] w fun e w' => ∃ v : Value, e = .returned v ∧ kR.R 61 w' w.heap.size (fun k => w.heap.size ≤ k) v l ∧ Below w.heap.size w w' :=
  (rate_copied.calls _ A c l l w h hc (copied_eq l hs)).mono fun e w' ⟨v, he, hS, hb⟩ => ⟨v, he, Kd.R_mono (Kd.R_bound (Kd.S_R hS)) (fun _ hk => hk.2.1), hb⟩
/-- A row copied, the law's way. -/
theorem twin_l0 (l : List (List S68)) (hs : Sm l) (d : Nat) : ∀ i, i + d = l.length → ∀ k, d < k → marqueelaw20_twin.l0 k l (l.take i) (i : Int) = some l := by
  obtain ⟨hl, hr⟩ := hs
  induction d with
  | zero =>
    intro i hi k hk
    obtain ⟨k, rfl⟩ : ∃ m, k = m + 1 := ⟨k - 1, by omega⟩
    simp only [marqueelaw20_twin.l0]
    rw [if_neg (by omega), List.take_of_length_le (by omega)]
  | succ d ih =>
    intro i hi k hk
    obtain ⟨k, rfl⟩ : ∃ m, k = m + 1 := ⟨k - 1, by omega⟩
    have e1 : wrap64 ((i : Int) + 1) = ((i + 1 : Nat) : Int) := by rw [w64 ⟨by omega, by omega⟩]; omega
    have hx : rd_L3 l (i : Int) = l[i]'(by omega) := by unfold rd_L3; rw [Int.toNat_natCast]; exact getD_get l _ i (by omega)
    have hc := hr _ (List.getElem_mem (show i < l.length by omega))
    have := ih (i + 1) (by omega) k (by omega)
    rw [List.take_succ_eq_append_getElem (by omega)] at this
    simp only [marqueelaw20_twin.l0]
    have hlt : (l.take i).length < 5864062014805 := by rw [List.length_take]; omega
    rw [if_pos (by omega), if_pos (by omega), hx, if_pos (by rw [List.length_nil]; omega), if_pos hlt, e1, List.nil_append]
    exact this
theorem twin_eq (l : List (List S68)) (hs : Sm l) : marqueelaw20_twin.f (l.length + 1) l = some l := by
  have := twin_l0 l hs l.length 0 (by omega) (l.length + 1) (by omega)
  simpa [marqueelaw20_twin.f] using this
theorem twin_any (A : Option Addr) (c : Nat) (l : List (List S68)) (w : World) (h : kR.C w A l.length l) (hc : l.length ≤ c) (hs : Sm l) :
    Calls Try.prog 19 #[.slice A l.length c] w fun e w' => ∃ v : Value, e = .returned v ∧ kR.R 61 w' w.heap.size (fun k => w.heap.size ≤ k) v l ∧ Below w.heap.size w w' :=
  (marqueelaw20_twin.calls _ A c l l w h hc (twin_eq l hs)).mono fun e w' ⟨v, he, hS, hb⟩ => ⟨v, he, Kd.R_mono (Kd.R_bound (Kd.S_R hS)) (fun _ hk => hk.2.1), hb⟩
end Go.Proofs.Yteklabhmmfklbaa
namespace Go.Proofs.Yteklabhmmfklbaa
open Go.RowKit Print Go.Proofs.YteklabhmmfklbaaW.PrintWords Go.Proofs.YteklabhmmfklbaaW.PrintLast Go.Proofs.YteklabhmmfklbaaW.PrintMore
set_option linter.unusedVariables false
/-! ### What is the same as itself -/
theorem Ev.stops {α : Type} {g : Nat → Option α} {r : α} (h : ∀ k, g (k + 1) = some r) : Ev g r := Ev.step (f := fun _ => some r) h (Ev.now r)
theorem Ev.next {α : Type} {g f : Nat → Option α} {r : α} (k : Ev f r) (h : ∀ k, g (k + 1) = f k) : Ev g r := Ev.step h k
theorem row_l0 (l : List S68) (hl : l.length ≤ 2097152) (d : Nat) : ∀ i, i + d = l.length → Ev (fun k => marqueeref03_SameRow.l0 k l l (i : Int)) true := by
  induction d with
  | zero =>
    intro i hi
    refine Ev.stops (fun k => ?_)
    simp only [marqueeref03_SameRow.l0]
    rw [if_neg (by omega)]
  | succ d ih =>
    intro i hi
    have e1 : wrap64 ((i : Int) + 1) = ((i + 1 : Nat) : Int) := by rw [w64 ⟨by omega, by omega⟩]; omega
    refine Ev.next (ih (i + 1) (by omega)) (fun k => ?_)
    simp only [marqueeref03_SameRow.l0]
    rw [if_pos (by omega), if_pos (by omega), if_pos (by omega), e1, if_neg (by simp)]
theorem row_same (l : List S68) (hl : l.length ≤ 2097152) : Ev (fun k => marqueeref03_SameRow.f k l l) true :=
  Ev.congr (fun k => by unfold marqueeref03_SameRow.f; rw [if_pos rfl]; rfl) (row_l0 l hl l.length 0 (by omega))
theorem rows_l0 (l : List (List S68)) (hs : Sm l) (d : Nat) : ∀ i, i + d = l.length → Ev (fun k => marqueeref03_SameRows.l0 k l l (i : Int)) true := by
  have hl := hs.1
  induction d with
  | zero =>
    intro i hi
    refine Ev.stops (fun k => ?_)
    simp only [marqueeref03_SameRows.l0]
    rw [if_neg (by omega)]
  | succ d ih =>
    intro i hi
    have e1 : wrap64 ((i : Int) + 1) = ((i + 1 : Nat) : Int) := by rw [w64 ⟨by omega, by omega⟩]; omega
    have hx : rd_L3 l (i : Int) = l[i]'(by omega) := by unfold rd_L3; rw [Int.toNat_natCast]; exact getD_get l _ i (by omega)
    have hrow := row_same (rd_L3 l (i : Int)) (by rw [hx]; exact hs.2 _ (List.getElem_mem _))
    refine Ev.step (f := fun k => (marqueeref03_SameRow.f k (rd_L3 l (i : Int)) (rd_L3 l (i : Int))).bind fun t => if t = true then marqueeref03_SameRows.l0 k l l ((i + 1 : Nat) : Int) else some false) (fun k => ?_) (Ev.bind hrow (Ev.congr (fun k => if_pos rfl) (ih (i + 1) (by omega))))
    simp only [marqueeref03_SameRows.l0]
    rw [if_pos (by omega), if_pos (by omega), if_pos (by omega), e1]
theorem rows_same (l : List (List S68)) (hs : Sm l) : Ev (fun k => marqueeref03_SameRows.f k l l) true :=
  Ev.congr (fun k => by unfold marqueeref03_SameRows.f; rw [if_pos rfl]; rfl) (rows_l0 l hs l.length 0 (by omega))
/-- Deliveries of no great number. -/
def SmD (l : List S43) : Prop := l.length ≤ 2097152 ∧ ∀ x ∈ l, Sm x.f1.f0 ∧ Sm x.f1.f1
theorem dels_l0 (l : List S43) (hs : SmD l) (d : Nat) : ∀ i, i + d = l.length → Ev (fun k => marqueeref20_Same.l0 k l l (i : Int)) true := by
  have hl := hs.1
  induction d with
  | zero =>
    intro i hi
    refine Ev.stops (fun k => ?_)
    simp only [marqueeref20_Same.l0]
    rw [if_neg (by omega)]
  | succ d ih =>
    intro i hi
    have e1 : wrap64 ((i : Int) + 1) = ((i + 1 : Nat) : Int) := by rw [w64 ⟨by omega, by omega⟩]; omega
    have hx : rd_T43 l (i : Int) = l[i]'(by omega) := by unfold rd_T43; rw [Int.toNat_natCast]; exact getD_get l _ i (by omega)
    obtain ⟨h1, h2⟩ := hs.2 _ (List.getElem_mem (show i < l.length by omega))
    rw [← hx] at h1 h2
    refine Ev.step (f := fun k => (marqueeref03_SameRows.f k (rd_T43 l (i : Int)).f1.f0 (rd_T43 l (i : Int)).f1.f0).bind fun t => if t = true then ((marqueeref03_SameRows.f k (rd_T43 l (i : Int)).f1.f1 (rd_T43 l (i : Int)).f1.f1).bind fun t => if t = true then marqueeref20_Same.l0 k l l ((i + 1 : Nat) : Int) else some false) else some false) (fun k => ?_) (Ev.bind (rows_same _ h1) (Ev.congr (fun k => if_pos rfl) (Ev.bind (rows_same _ h2) (Ev.congr (fun k => if_pos rfl) (ih (i + 1) (by omega))))))
    simp only [marqueeref20_Same.l0]
    rw [if_pos (by omega), if_pos (by omega), if_pos (by omega), if_pos (by trivial), e1]
theorem dels_same (l : List S43) (hs : SmD l) : Ev (fun k => marqueelaw20_same.f k l l) true := by
  unfold marqueelaw20_same.f
  exact Ev.bind (Ev.congr (fun k => by unfold marqueeref20_Same.f; rw [if_pos rfl]; rfl) (dels_l0 l hs l.length 0 (by omega))) (Ev.now _)
/-- 'same' of what is the same. -/
theorem same_any (A : Option Addr) (c : Nat) (A' : Option Addr) (c' : Nat) (l : List S43) (w : World) (h : k43.C w A l.length l) (hc : l.length ≤ c) (h' : k43.C w A' l.length l) (hc' : l.length ≤ c') (hs : SmD l) :
    Calls Try.prog 13 #[.slice A l.length c, .slice A' l.length c'] w fun e w' => e = .returned (.bool true) ∧ Below w.heap.size w w' := by
  obtain ⟨k, hk⟩ := (dels_same l hs).rounds
  exact marqueelaw20_same.calls k A c l A' c' l true w h hc h' hc' hk
theorem sameRows_any (A : Option Addr) (c : Nat) (A' : Option Addr) (c' : Nat) (l : List (List S68)) (w : World) (h : kR.C w A l.length l) (hc : l.length ≤ c) (h' : kR.C w A' l.length l) (hc' : l.length ≤ c') (hs : Sm l) :
    Calls Try.prog 15 #[.slice A l.length c, .slice A' l.length c'] w fun e w' => e = .returned (.bool true) ∧ Below w.heap.size w w' := by
  obtain ⟨k, hk⟩ := (rows_same l hs).rounds
  exact (marqueeref03_SameRows.calls k A c l A' c' l true w h hc h' hc' hk).mono fun e w' ⟨he, hd⟩ => ⟨he, hd.below⟩
end Go.Proofs.Yteklabhmmfklbaa
