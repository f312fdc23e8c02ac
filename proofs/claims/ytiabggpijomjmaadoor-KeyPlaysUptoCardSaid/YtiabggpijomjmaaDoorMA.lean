import Derived.Test.YtiabggpijomjmaaDoorPx0
import Derived.Maps.OwnSet
import Derived.DeepKeys4
import Derived.Deep.RegionHeld3
import Derived.Deep.RegionLaw
import Derived.Deep.DeepCutAuto
import Derived.Deep.CutBlock
import Derived.Test.YtiabggpijomjmaaDoorPx7
namespace Go.Proofs.YtiabggpijomjmaaDoor
open Go.RowKit Print Go.Proofs.YtiabggpijomjmaaDoorW.PrintWords Go.Proofs.YtiabggpijomjmaaDoorW.PrintLast Go.Proofs.YtiabggpijomjmaaDoorW.PrintMore
set_option linter.unusedVariables false
/-! ### What a call keeps: all but the blocks of S and what is new; and nothing is told to the outer world -/
structure K3 (w W : World) (S : Nat → Prop) : Prop where
  size : w.heap.size ≤ W.heap.size
  block : ∀ i, i < w.heap.size → ¬ S i → W.heap[i]? = w.heap[i]?
  os : W.os = w.os
  tape : W.tape = w.tape
  output : W.output = w.output
namespace K3
variable {w W W2 : World} {S S2 S' : Nat → Prop}
theorem kept (h : K3 w W S) : Kept w W S := ⟨h.size, h.block⟩
theorem refl (w : World) (S : Nat → Prop) : K3 w w S := ⟨Nat.le_refl _, fun _ _ _ => rfl, rfl, rfl, rfl⟩
theorem of_below (h : Below w.heap.size w W) (S : Nat → Prop) : K3 w W S := ⟨h.size, fun i hi _ => h.block i hi, h.os, h.tape, h.output⟩
theorem mono (h : K3 w W S) (hs : ∀ k, S k → S' k) : K3 w W S' := ⟨h.1, fun i hi hn => h.2 i hi (fun hk => hn (hs i hk)), h.os, h.tape, h.output⟩
theorem then_ (h : K3 w W S) (k : K3 W W2 S2) (hs : ∀ k, S2 k → S k ∨ w.heap.size ≤ k) : K3 w W2 S :=
  ⟨Nat.le_trans h.1 k.1, (h.kept.then_ k.kept hs).2, k.os.trans h.os, k.tape.trans h.tape, k.output.trans h.output⟩
theorem of_grown {row : Option Nat} (hg : W.grownBy W2 row) (h : K3 w W S) (hr : ∀ k, row = some k → S k ∨ w.heap.size ≤ k) : K3 w W2 S :=
  h.then_ (S2 := fun k => row = some k) ⟨hg.size, fun i hi hn => hg.block i hi (fun he => hn he.symm), hg.os, hg.tape, hg.output⟩ hr
theorem below (h : K3 w W S) (hb : Below W.heap.size W W2) : K3 w W2 S := h.then_ (of_below hb (fun _ => False)) (fun _ hk => hk.elim)
theorem alloc (h : K3 w W S) (o : Obj) : K3 w (W.alloc o) S := h.below (below_alloc (Below.refl _ _) o)
theorem drew (h : K3 w W S) : K3 w W.drew S := ⟨h.1, h.2, h.os, h.tape, h.output⟩
theorem drewN (h : K3 w W S) (m : Nat) : K3 w (W.drewN m) S := ⟨h.1, h.2, h.os, h.tape, h.output⟩
theorem setCell (h : K3 w W S) {p : Addr} (hp : S p.block ∨ w.heap.size ≤ p.block) (u : Value) : K3 w (W.setCell p u) S :=
  h.then_ (S2 := fun k => k = p.block) ⟨by simp [World.setCell], fun i _ hn => Below.heap_setCell W p u i hn, rfl, rfl, rfl⟩ (fun k hk => by rw [hk]; exact hp)
theorem R {α : Type} {d : Kd α} {e base : Nat} {ok : Nat → Prop} {v : Value} {xs : List α} (h : d.R e W base ok v xs) (hk : K3 W W2 S) (hne : ∀ k, ok k → ¬ S k) : d.R e W2 base ok v xs := Kd.R_kept h hk.kept hne
theorem F {α : Type} {d : Kd α} {n : Nat} {ok : Nat → Prop} {A : Option Addr} {xs : List α} (h : Kd.F d W ok A n xs) (hk : K3 W W2 S) (hne : ∀ k, ok k → ¬ S k) : Kd.F d W2 ok A n xs := Kd.F_kept h hk.kept hne
theorem blk {g : Nat} {o : Obj} (hb : W.heap[g]? = some o) (hk : K3 W W2 S) (hne : ¬ S g) : W2.heap[g]? = some o := blk_kept hb hk.kept hne
/-- Nothing elder than w0 was touched. -/
theorem to_below {w0 : World} (h0 : Below w0.heap.size w0 w) (h : K3 w W S) (hs : ∀ k, S k → w0.heap.size ≤ k) : Below w0.heap.size w0 W :=
  ⟨h.os.trans h0.os, h.tape.trans h0.tape, h.output.trans h0.output, Nat.le_trans h0.size h.size, fun k hk => (h.block k (Nat.lt_of_lt_of_le hk h0.size) (fun h' => by have := hs k h'; omega)).trans (h0.block k hk)⟩
end K3
end Go.Proofs.YtiabggpijomjmaaDoor
namespace Go.Proofs.YtiabggpijomjmaaDoor
open Go.RowKit Print Go.Proofs.YtiabggpijomjmaaDoorW.PrintWords Go.Proofs.YtiabggpijomjmaaDoorW.PrintLast Go.Proofs.YtiabggpijomjmaaDoorW.PrintMore
set_option linter.unusedVariables false
/-! ### What lies apart in memory -/
/-- A thing in memory and the blocks that are its own. -/
structure Asr where
  P : World → (Nat → Prop) → Prop
  lt : ∀ {w F}, P w F → ∀ k, F k → k < w.heap.size
  keep : ∀ {w w' F S}, P w F → K3 w w' S → (∀ k, F k → ¬ S k) → P w' F
/-- All of them, each in blocks of its own, and none of U's. -/
def Sep (w : World) : List Asr → (Nat → Prop) → Prop
  | [], _ => True
  | A :: l, U => ∃ F, A.P w F ∧ (∀ k, F k → ¬ U k) ∧ Sep w l (fun k => U k ∨ F k)
abbrev Apart (w : World) (l : List Asr) : Prop := Sep w l (fun _ => False)
theorem Sep.mono {w : World} : ∀ {l : List Asr} {U U' : Nat → Prop}, Sep w l U → (∀ k, U' k → U k) → Sep w l U'
  | [], _, _, _, _ => trivial
  | A :: l, U, U', ⟨F, hA, hF, hl⟩, h => ⟨F, hA, fun k hk hu => hF k hk (h k hu), hl.mono (fun k hk => hk.imp (h k) id)⟩
theorem Sep.frame {w w' : World} {S : Nat → Prop} (hk : K3 w w' S) : ∀ {l : List Asr} {U U' : Nat → Prop}, Sep w l U → (∀ k, S k → U k) → (∀ k, U' k → U k ∨ w.heap.size ≤ k) → Sep w' l U'
  | [], _, _, _, _, _ => trivial
  | A :: l, U, U', ⟨F, hA, hF, hl⟩, hS, hU => ⟨F, A.keep hA hk (fun k hf hs => hF k hf (hS k hs)), fun k hf hu => (hU k hu).elim (hF k hf) (fun h => by have := A.lt hA k hf; omega),
      hl.frame hk (fun k hs => .inl (hS k hs)) (fun k hu => hu.elim (fun h => (hU k h).imp .inl id) (fun h => .inl (.inr h)))⟩
theorem Sep.below {w w' : World} {l : List Asr} {U : Nat → Prop} (h : Sep w l U) (hb : Below w.heap.size w w') : Sep w' l U :=
  h.frame (K3.of_below hb (fun _ => False)) (fun _ hs => hs.elim) (fun _ hu => .inl hu)
theorem Sep.swap {w : World} {A B : Asr} {l : List Asr} {U : Nat → Prop} (h : Sep w (A :: B :: l) U) : Sep w (B :: A :: l) U := by
  obtain ⟨F, hA, hF, G, hB, hG, hl⟩ := h
  exact ⟨G, hB, fun k hk hu => hG k hk (.inl hu), F, hA, fun k hk hu => hu.elim (hF k hk) (fun hg => hG k hg (.inr hk)), hl.mono (fun k hk => hk.elim (fun h => h.elim (fun h => .inl (.inl h)) .inr) (fun h => .inl (.inr h)))⟩
/-- The i-th one, set ahead. -/
def pick : Nat → List Asr → List Asr
  | 0, l => l
  | i + 1, A :: l => match pick i l with
    | [] => [A]
    | B :: l' => B :: A :: l'
  | _ + 1, [] => []
theorem Sep.pick {w : World} : ∀ (i : Nat) {l : List Asr} {U : Nat → Prop}, Sep w l U → Sep w (pick i l) U
  | 0, _, _, h => h
  | i + 1, [], _, h => h
  | i + 1, A :: l, U, ⟨F, hA, hF, hl⟩ => by
    have := hl.pick i
    show Sep w (match YtiabggpijomjmaaDoor.pick i l with | [] => [A] | B :: l' => B :: A :: l') U
    revert this
    cases YtiabggpijomjmaaDoor.pick i l with
    | nil => exact fun _ => ⟨F, hA, hF, trivial⟩
    | cons B l' => exact fun h2 => Sep.swap ⟨F, hA, hF, h2⟩
theorem Sep.tail {w : World} {A : Asr} {l : List Asr} {U : Nat → Prop} (h : Sep w (A :: l) U) : Sep w l U := by
  obtain ⟨F, hA, hF, hl⟩ := h
  exact hl.mono (fun k hk => .inl hk)
/-- What was made anew is set ahead. -/
theorem Sep.new {w w' : World} {A : Asr} {l : List Asr} {F : Nat → Prop} (h : Apart w l) (hb : Below w.heap.size w w') (hA : A.P w' F) (hF : ∀ k, F k → w.heap.size ≤ k) : Apart w' (A :: l) :=
  ⟨F, hA, fun _ _ h => h, Sep.frame (K3.of_below hb (fun _ => False)) h (fun _ hs => hs.elim) (fun k hu => hu.elim .inl (fun hk => .inr (hF k hk)))⟩
/-! #### the things -/
/-- What is elder than w0: nothing of it was touched. -/
def Old (w0 : World) : Asr where
  P w F := (∀ k, F k ↔ k < w0.heap.size) ∧ Below w0.heap.size w0 w
  lt h k hk := Nat.lt_of_lt_of_le ((h.1 k).1 hk) h.2.size
  keep h hk hd := ⟨h.1, K3.to_below h.2 hk (fun k hs => Nat.le_of_not_lt (fun hl => hd k ((h.1 k).2 hl) hs))⟩
theorem Sep.begin (w : World) : Apart w [Old w] := ⟨fun k => k < w.heap.size, ⟨fun _ => Iff.rfl, Below.refl _ _⟩, fun _ _ h => h, trivial⟩
theorem Sep.done {w0 w : World} {l : List Asr} (h : Apart w (Old w0 :: l)) : Below w0.heap.size w0 w := h.choose_spec.1.2
end Go.Proofs.YtiabggpijomjmaaDoor
namespace Go.Proofs.YtiabggpijomjmaaDoor
open Go.RowKit Print Go.Proofs.YtiabggpijomjmaaDoorW.PrintWords Go.Proofs.YtiabggpijomjmaaDoorW.PrintLast Go.Proofs.YtiabggpijomjmaaDoorW.PrintMore
open Go.Maps (Keyed IsMap has)
set_option linter.unusedVariables false
/-! ### A map's keys -/
structure S76 where
  f0 : ByteArray
  f1 : Int
def z76 : S76 := ⟨⟨#[]⟩, 0⟩
theorem info76 : (Tryd.prog.info? 76).map (fun i => (i.zero, i.size, i.bytes)) = some (some (.agg #[.string ⟨#[]⟩, .int .i64 0]), 2, 24) := by kernel_rfl
theorem info80 : (Tryd.prog.info? 80).map (fun i => (i.zero, i.size, i.bytes)) = some (some (.agg #[.int .i64 0, .int .i64 0]), 2, 16) := by kernel_rfl
theorem info54 : (Tryd.prog.info? 22).map (fun i => (i.zero, i.size, i.bytes)) = some (some (.slice none 0 0), 1, 24) := by kernel_rfl
def k76 : Kd S76 := Kd.iso (Kd.pair Kd.string (Kd.int .i64)) (fun x : S76 => (x.f0, x.f1))
theorem k76_open {w : World} {x : S76} {cs : List Value} (h : k76.K w x cs) : cs = [.string x.f0, .int .i64 x.f1] := by
  obtain ⟨_, _, rfl, rfl, rfl⟩ := h
  exact rfl
theorem k76_openM {w : World} {base : Nat} {ok : Nat → Prop} {x : S76} {cs : List Value} (h : k76.M w base ok x cs) : cs = [.string x.f0, .int .i64 x.f1] := by
  obtain ⟨_, _, rfl, rfl, rfl⟩ := h
  exact rfl
theorem k76_mk (w : World) (x : S76) : k76.K w x [.string x.f0, .int .i64 x.f1] := ⟨[.string x.f0], [.int .i64 x.f1], rfl, rfl, rfl⟩
theorem k76_mkM (w : World) (base : Nat) (ok : Nat → Prop) (x : S76) : k76.M w base ok x [.string x.f0, .int .i64 x.f1] := ⟨[.string x.f0], [.int .i64 x.f1], rfl, rfl, rfl⟩
def rd_T76 (xs : List S76) (i : Int) : S76 := xs.getD i.toNat z76
theorem at_T76 {w : World} {A : Option Addr} {n : Nat} {xs : List S76} (h : Kd.C k76 w A n xs) (i : Int) (h0 : 0 ≤ i) (h1 : i < n) : ∃ ad , A = some ad ∧ w.cell? (ad.add (i.toNat * 2)) = some (.string (rd_T76 xs i).f0) ∧ w.cell? ⟨(ad.add (i.toNat * 2)).block, (ad.add (i.toNat * 2)).off + 1, none⟩ = some (.int .i64 (rd_T76 xs i).f1) := by
  obtain ⟨ad, c, e, _, hK, hc0⟩ := Kd.C_get h z76 i h0 h1
  have hc : ∀ j u, c[j]? = some u → w.cell? (ad.add (i.toNat * 2 + j)) = some u := hc0
  obtain rfl := k76_open hK
  exact ⟨ad, e, hc 0 _ rfl, by rw [← add_field _ _ 1 (by omega)]; exact hc 1 _ rfl⟩
theorem heap_k76 : Kd.Heap k76 := Kd.heap_iso _ (Kd.heap_pair Kd.heap_string (Kd.heap_int _))
/-- What a key reads as. -/
def kl (p : S76) : Lit := .string (keyBytes [.string p.f0.data.toList, .int .i64 p.f1])
def Okk (p : S76) : Prop := p.f0.size ≤ maxLen ∧ (Lit.int .i64 p.f1).wf = true
theorem law76 : WideMaps.KeyLaw Tryd.prog 76 := deep_law (m := 10) (by decide) (by kernel_rfl) (by kernel_rfl) (by kernel_rfl)
theorem K76 : Keyed Tryd.prog 76 := Keyed.of_law law76
theorem keyOf76 (p : S76) (h : Okk p) : keyOf Tryd.prog 76 (.agg #[.string p.f0, .int .i64 p.f1]) = some (kl p) := by
  have hkt : Tryd.prog.keyType 76 = true := by kernel_rfl
  have hf : (Value.agg #[.string p.f0, .int .i64 p.f1]).formed Tryd.prog 76 = true := by kernel_rfl
  unfold keyOf
  simp only [Tryd.underlying76]
  rw [if_pos (by rw [hkt, hf]; rfl)]
  have hlt : 76 < Tryd.prog.types.size := of_decide_eq_true (by kernel_rfl)
  have hsz : ∃ m, Tryd.prog.types.size = m + 2 := ⟨Tryd.prog.types.size - 2, by omega⟩
  obtain ⟨m, hm⟩ := hsz
  rw [hm]
  unfold Program.keyLits
  simp only [Tryd.underlying76, Value.cells]
  have hc : Tryd.prog.cellsOf 76 = 2 := by kernel_rfl
  have h9 : Tryd.prog.cellsOf 9 = 1 := by kernel_rfl
  have h3 : Tryd.prog.cellsOf 3 = 1 := by kernel_rfl
  rw [if_pos (by rw [hc]; exact ⟨rfl, by simp⟩)]
  simp [List.mapM_cons, List.mapM_nil, h9, h3, Program.keyLits, Tryd.underlying9, Tryd.underlying3, h.1, h.2, kl]
theorem kl_inj {p q : S76} (hp : Okk p) (hq : Okk q) (h : kl p = kl q) : p = q := by
  have h1 := keyOf76 p hp
  have h2 := keyOf76 q hq
  rw [h] at h1
  have := law76.inj h1 h2
  obtain ⟨a, b⟩ := p
  obtain ⟨c, d⟩ := q
  simpa using this
theorem kl_key (p : S76) : WideAt.IsKeyLit (kl p) := by
  simp [kl, WideAt.IsKeyLit]
end Go.Proofs.YtiabggpijomjmaaDoor
namespace Go.Proofs.YtiabggpijomjmaaDoor
open Go.RowKit Print Go.Proofs.YtiabggpijomjmaaDoorW.PrintWords Go.Proofs.YtiabggpijomjmaaDoorW.PrintLast Go.Proofs.YtiabggpijomjmaaDoorW.PrintMore
open Go.Maps (Keyed IsMap has)
set_option linter.unusedVariables false
/-! ### A map as a row of pairs -/
def eq76 (a b : S76) : Bool := (a.f0.toList == b.f0.toList) && (a.f1 == b.f1)
theorem eq76_iff {a b : S76} : eq76 a b = true ↔ a = b := by
  obtain ⟨a0, a1⟩ := a
  obtain ⟨b0, b1⟩ := b
  simp only [eq76, Bool.and_eq_true, beq_iff_eq, S76.mk.injEq]
  exact and_congr_left' ⟨fun h => by
    rw [ByteArray.toList_eq, ByteArray.toList_eq] at h
    cases a0; cases b0; congr 1; exact Array.ext' h, fun h => by rw [h]⟩
theorem eq76_self (a : S76) : eq76 a a = true := eq76_iff.2 rfl
theorem eq76_ne {a b : S76} (h : eq76 a b = false) : a ≠ b := fun e => by rw [eq76_iff.2 e] at h; cases h
theorem eq76_false {a b : S76} (h : a ≠ b) : eq76 a b = false := by
  cases e : eq76 a b
  · rfl
  · exact absurd (eq76_iff.1 e) h
abbrev Mp := List (S76 × Int)
def look : Mp → S76 → Option Int
  | [], _ => none
  | e :: l, p => if eq76 e.1 p = true then some e.2 else look l p
def put : Mp → S76 → Int → Mp
  | [], p, n => [(p, n)]
  | e :: l, p, n => if eq76 e.1 p = true then (e.1, n) :: l else e :: put l p n
def drop (l : Mp) (p : S76) : Mp := l.filter fun e => !eq76 e.1 p
theorem look_put_same (l : Mp) (p : S76) (n : Int) : look (put l p n) p = some n := by
  induction l with
  | nil => simp [put, look, eq76_self]
  | cons e l ih =>
    by_cases h : eq76 e.1 p = true
    · simp [put, look, h]
    · simp [put, look, h, ih]
theorem look_put_other {p q : S76} (hq : q ≠ p) (l : Mp) (n : Int) : look (put l p n) q = look l q := by
  induction l with
  | nil => simp [put, look, eq76_false (Ne.symm hq)]
  | cons e l ih =>
    by_cases h : eq76 e.1 p = true
    · have e1 := eq76_iff.1 h
      have e2 : eq76 e.1 q = false := eq76_false (by rw [e1]; exact Ne.symm hq)
      simp [put, look, h, e2]
    · simp [put, look, h, ih]
theorem look_drop_same (l : Mp) (p : S76) : look (drop l p) p = none := by
  induction l with
  | nil => rfl
  | cons e l ih =>
    by_cases h : eq76 e.1 p = true
    · simpa [drop, List.filter_cons, h] using ih
    · have e : drop (e :: l) p = e :: drop l p := by simp [drop, h]
      rw [e]
      simpa [look, h] using ih
theorem look_drop_other {p q : S76} (hq : q ≠ p) (l : Mp) : look (drop l p) q = look l q := by
  induction l with
  | nil => rfl
  | cons e l ih =>
    by_cases h : eq76 e.1 p = true
    · have e1 := eq76_iff.1 h
      have e2 : eq76 e.1 q = false := eq76_false (by rw [e1]; exact Ne.symm hq)
      simpa [drop, List.filter_cons, h, look, e2] using ih
    · have e2 : drop (e :: l) p = e :: drop l p := by simp [drop, h]
      rw [e2]
      simp only [look, ih]
theorem put_rows_old (l : Mp) (p : S76) (n : Int) (h : (look l p).isSome = true) : (put l p n).map (·.1) = l.map (·.1) := by
  induction l with
  | nil => simp [look] at h
  | cons e l ih =>
    by_cases c : eq76 e.1 p = true
    · simp [put, c]
    · simp only [look, c] at h
      simp [put, c, ih (by simpa using h)]
theorem put_rows_new (l : Mp) (p : S76) (n : Int) (h : look l p = none) : (put l p n).map (·.1) = l.map (·.1) ++ [p] := by
  induction l with
  | nil => simp [put]
  | cons e l ih =>
    by_cases c : eq76 e.1 p = true
    · simp [look, c] at h
    · simp only [look, c] at h
      simp [put, c, ih (by simpa using h)]
theorem drop_rows (l : Mp) (p : S76) : (drop l p).map (·.1) = (l.map (·.1)).filter fun e => !eq76 e p := by
  simp [drop, List.filter_map, Function.comp_def]
/-- How an entry reads: by its number alone. -/
def R80 : Value → Option (DataW Unit × List MemPlace)
  | .agg cs => match cs.toList with
    | [.int .i64 n, .int .i64 _] => some (.lit (.int .i64 n), [])
    | _ => none
  | _ => none
theorem R80_mk (n s : Int) : R80 (.agg #[.int .i64 n, .int .i64 s]) = some (.lit (.int .i64 n), []) := rfl
theorem R80_inv {v : Value} {z : DataW Unit × List MemPlace} (h : R80 v = some z) : ∃ n s, v = .agg #[.int .i64 n, .int .i64 s] ∧ z = (.lit (.int .i64 n), []) := by
  unfold R80 at h
  split at h
  · rename_i cs
    split at h
    · rename_i n s e
      refine ⟨n, s, ?_, (Option.some.inj h).symm⟩
      congr 1
      exact Array.ext' e
    · cases h
  · cases h
/-- The map's reading and the row of pairs. -/
structure Tie (D : DataW Unit) (l : Mp) : Prop where
  isMap : IsMap D
  has_ : ∀ p, Okk p → has D (kl p) = (look l p).isSome
  at_ : ∀ p, Okk p → D.atKey (kl p) (.lit (.int .i64 0)) = .lit (.int .i64 ((look l p).getD 0))
theorem Tie.nil : Tie (.map []) [] := ⟨Maps.isMap_empty, fun _ _ => rfl, fun _ _ => rfl⟩
theorem Tie.put {D : DataW Unit} {l : Mp} (h : Tie D l) {p : S76} (hp : Okk p) (n : Int) : Tie (D.put (kl p) (.lit (.int .i64 n))) (put l p n) := by
  refine ⟨h.isMap.put _ _, fun q hq => ?_, fun q hq => ?_⟩
  · by_cases e : q = p
    · subst e; rw [look_put_same, Maps.has_put_same h.isMap (kl_key _)]; rfl
    · rw [look_put_other e, Maps.has_put_other (fun e' => e (kl_inj hq hp e')), h.has_ q hq]
  · by_cases e : q = p
    · subst e; rw [look_put_same, Maps.atKey_put_same h.isMap (kl_key _)]; rfl
    · rw [look_put_other e, Maps.atKey_put_other (fun e' => e (kl_inj hq hp e')), h.at_ q hq]
theorem Tie.drop {D : DataW Unit} {l : Mp} (h : Tie D l) {p : S76} (hp : Okk p) : Tie (D.del (kl p)) (drop l p) := by
  refine ⟨h.isMap.del _, fun q hq => ?_, fun q hq => ?_⟩
  · by_cases e : q = p
    · subst e; rw [look_drop_same, Maps.has_del_same]; rfl
    · rw [look_drop_other e, Maps.has_del_other (fun e' => e (kl_inj hq hp e')), h.has_ q hq]
  · by_cases e : q = p
    · subst e; rw [look_drop_same, Maps.atKey_del_same]; rfl
    · rw [look_drop_other e, Maps.atKey_del_other (fun e' => e (kl_inj hq hp e')), h.at_ q hq]
/-! ### A map in memory -/
def MAt (w : World) (g b : Nat) (v : Value) (nx : Int) : Prop := w.heap[g]? = some (.cells #[.map (some b), v, .int .i64 nx] 74 (0, 0))
section
variable {w w1 : World} {g b : Nat} {v : Value} {nx : Int}
theorem MAt.cells (h : MAt w g b v nx) : w.cell? ⟨g, 0, none⟩ = some (.map (some b)) ∧ w.cell? ⟨g, 1, none⟩ = some v ∧ w.cell? ⟨g, 2, none⟩ = some (.int .i64 nx) :=
  ⟨(blk_cell h 0).trans rfl, (blk_cell h 1).trans rfl, (blk_cell h 2).trans rfl⟩
theorem MAt.frozen (h : MAt w g b v nx) (i : Nat) : w.frozen? ⟨g, i, none⟩ = false := blk_frozen h i
theorem MAt.lt (h : MAt w g b v nx) : g < w.heap.size := blk_lt h
theorem MAt.kept {S : Nat → Prop} (h : MAt w g b v nx) (hk : K3 w w1 S) (hn : ¬ S g) : MAt w1 g b v nx := K3.blk h hk hn
theorem MAt.below (h : MAt w g b v nx) (hb : Below w.heap.size w w1) : MAt w1 g b v nx := (hb.block g h.lt).trans h
theorem MAt.set_rows (h : MAt w g b v nx) (x : Value) : MAt (w.setCell ⟨g, 1, none⟩ x) g b x nx := by
  simpa [MAt] using blk_set h 1 x
theorem MAt.set_next (h : MAt w g b v nx) (x : Int) : MAt (w.setCell ⟨g, 2, none⟩ (.int .i64 x)) g b v x := by
  simpa [MAt] using blk_set h 2 (.int .i64 x)
end
theorem ownsMap_kept {w w1 : World} {b n : Nat} {D : DataW Unit} {S : Nat → Prop} (h : w.ownsMap Tryd.prog 76 R80 b n D) (hk : K3 w w1 S) (hn : ¬ S b) : w1.ownsMap Tryd.prog 76 R80 b n D := by
  obtain ⟨es, clock, hb, r⟩ := h
  exact ⟨es, clock, K3.blk hb hk hn, r⟩
theorem ownsMap_below {w w1 : World} {b n : Nat} {D : DataW Unit} (h : w.ownsMap Tryd.prog 76 R80 b n D) (hb : Below w.heap.size w w1) : w1.ownsMap Tryd.prog 76 R80 b n D :=
  ownsMap_kept h (K3.of_below hb (fun _ => False)) id
/-- A map: its block g, its entries' block b, its rows. -/
structure MB (w : World) (g b n : Nat) (okS : Nat → Prop) (v : Value) (nx : Int) (D : DataW Unit) (l : Mp) : Prop where
  at_ : MAt w g b v nx
  map : w.ownsMap Tryd.prog 76 R80 b n D
  tie : Tie D l
  rows : k76.R 76 w 0 okS v (l.map (·.1))
  gb : g ≠ b
  gS : ¬ okS g
  bS : ¬ okS b
  lS : ∀ k, okS k → k < w.heap.size
theorem MB.kept {w w1 : World} {g b n : Nat} {okS S : Nat → Prop} {v : Value} {nx : Int} {D : DataW Unit} {l : Mp} (h : MB w g b n okS v nx D l) (hk : K3 w w1 S) (hg : ¬ S g) (hb : ¬ S b) (hS : ∀ k, okS k → ¬ S k) : MB w1 g b n okS v nx D l :=
  ⟨h.at_.kept hk hg, ownsMap_kept h.map hk hb, h.tie, K3.R h.rows hk hS, h.gb, h.gS, h.bS, fun k hk' => Nat.lt_of_lt_of_le (h.lS k hk') hk.1⟩
theorem MB.below {w w1 : World} {g b n : Nat} {okS : Nat → Prop} {v : Value} {nx : Int} {D : DataW Unit} {l : Mp} (h : MB w g b n okS v nx D l) (hb : Below w.heap.size w w1) : MB w1 g b n okS v nx D l :=
  h.kept (K3.of_below hb (fun _ => False)) id id (fun _ _ => id)
def Mm (g n : Nat) (l : Mp) : Asr where
  P w F := ∃ b okS v nx D, MB w g b n okS v nx D l ∧ ∀ k, F k ↔ (k = g ∨ k = b ∨ okS k)
  lt h k hk := by
    obtain ⟨b, okS, v, nx, D, hB, hF⟩ := h
    rcases (hF k).1 hk with e | e | h
    · subst e; exact hB.at_.lt
    · subst e; exact hB.map.lt
    · exact hB.lS k h
  keep h hk hd := by
    obtain ⟨b, okS, v, nx, D, hB, hF⟩ := h
    exact ⟨b, okS, v, nx, D, hB.kept hk (hd _ ((hF _).2 (.inl rfl))) (hd _ ((hF _).2 (.inr (.inl rfl)))) (fun k h => hd k ((hF k).2 (.inr (.inr h)))), hF⟩
end Go.Proofs.YtiabggpijomjmaaDoor
namespace Go.Proofs.YtiabggpijomjmaaDoor
open Go.RowKit Print Go.Proofs.YtiabggpijomjmaaDoorW.PrintWords Go.Proofs.YtiabggpijomjmaaDoorW.PrintLast Go.Proofs.YtiabggpijomjmaaDoorW.PrintMore
open Go.Maps (Keyed IsMap has)
set_option linter.unusedVariables false
theorem zero80 (w : World) : (zeroValue 80).run Tryd.prog w = .ok (.agg #[.int .i64 0, .int .i64 0]) w := by kernel_rfl
/-- What the row's key is, at every world to come. -/
abbrev OfK (W : World) (v : Value) (p : S76) (er : Int) : Prop :=
  ∀ w1, Below W.heap.size W w1 → Calls Tryd.prog 30 #[v] w1 fun e w' => e = .returned (.tuple #[.agg #[.string p.f0, .int .i64 p.f1], .int .i64 er]) ∧ Below w1.heap.size w1 w'
theorem look_run {b n : Nat} {D : DataW Unit} {l : Mp} {p : S76} {w : World} (h : w.ownsMap Tryd.prog 76 R80 b n D) (ht : Tie D l) (hp : Okk p) :
    ∃ s, (Instr.lookup 71 (.map (some b)) (.agg #[.string p.f0, .int .i64 p.f1]) true).run Tryd.prog w = .ok (.tuple #[.agg #[.int .i64 ((look l p).getD 0), .int .i64 s], .bool (look l p).isSome]) w := by
  obtain ⟨v, ps, hrun, hv⟩ := h.look_ok K76 Tryd.underlying71 (zero80 w) (zd := .lit (.int .i64 0)) (zp := []) rfl (keyOf76 p hp)
  rw [ht.at_ p hp] at hv
  obtain ⟨n', s, rfl, e⟩ := R80_inv hv
  simp only [Prod.mk.injEq, DataW.lit.injEq, Lit.int.injEq, true_and] at e
  rw [ht.has_ p hp, ← e.1] at hrun
  exact ⟨s, hrun⟩
set_option maxHeartbeats 2000000 in
set_option maxRecDepth 100000 in
theorem get_any {g b n : Nat} {okS : Nat → Prop} {v : Value} {nx : Int} {D : DataW Unit} {l : Mp} {p : S76} (A : Option Addr) (m c : Nat) (W : World) (h : MB W g b n okS v nx D l) (hp : Okk p) (hof : OfK W (.slice A m c) p 0) :
    Calls Tryd.prog 18 #[.pointer (some ⟨g, 0, none⟩), .slice A m c] W fun e w' => e = .returned (.tuple #[.int .i64 ((look l p).getD 0), .bool (look l p).isSome]) ∧ Below W.heap.size W w' := by
  have hu76 := Tryd.underlying76
  have hu80 := Tryd.underlying80
  have hu74 := Tryd.underlying74
  have HB := Aside0.mk h
  have HP := Aside0.mk hp
  have HO := Aside0.mk hof
  clear h hp hof
  go_enter Tryd.func18, Tryd.ntmps18
  go_upto_region 6 with (first
    | (go_at_call 30; refine (HO.out _ (by repeat (first | exact Below.refl _ _ | apply below_alloc | apply pw_below_drewN | apply below_drew1))).mono ?_; rintro e w1 ⟨rfl, hb⟩; have HW1 := Aside0.mk hb; obtain ⟨a0, a1, a2⟩ := (HB.out.below hb).at_.cells; clear hb))
  have hb2 := below_alloc HW1.out (.cells #[.string p.f0, .int .i64 p.f1] 76)
  obtain ⟨s1, e1⟩ := look_run (ownsMap_below HB.out.map (below_drew1 hb2)) HB.out.tie HP.out
  obtain ⟨s2, e2⟩ := look_run (ownsMap_below HB.out.map (below_drew1 (below_alloc hb2 (.cells #[.int .i64 0, .int .i64 0] 80)))) HB.out.tie HP.out
  have HB2 := Aside0.mk hb2
  have q0 : (w1.alloc (.cells #[.string p.f0, .int .i64 p.f1] 76)).cell? ⟨g, 0, none⟩ = some (.map (some b)) := (HB.out.below hb2).at_.cells.1
  have q1 : (w1.alloc (.cells #[.string p.f0, .int .i64 p.f1] 76)).cell? ⟨w1.heap.size, 0, none⟩ = some (.string p.f0) := by go_simp
  have q2 : (w1.alloc (.cells #[.string p.f0, .int .i64 p.f1] 76)).cell? ⟨w1.heap.size, 1, none⟩ = some (.int .i64 p.f1) := by go_simp
  clear hb2 a0 a1 a2
  generalize w1.alloc (.cells #[.string p.f0, .int .i64 p.f1] 76) = W2 at *
  generalize w1.heap.size = kb at *
  obtain ⟨N, hN⟩ : ∃ N, (look l p).getD 0 = N := ⟨_, rfl⟩
  obtain ⟨t, ht⟩ : ∃ t, (look l p).isSome = t := ⟨_, rfl⟩
  rw [hN, ht] at e1 e2
  have HN := Aside0.mk hN
  have HT := Aside0.mk ht
  clear hN ht
  go_region_held3 (fun w' => w'.cell? ⟨g, 0, none⟩ = some (.map (some b)) ∧ w'.cell? ⟨kb, 0, none⟩ = some (.string p.f0) ∧ w'.cell? ⟨kb, 1, none⟩ = some (.int .i64 p.f1)) (first | go_keep) (first | fail)
  all_goals (go_wp2_with fail)
  all_goals go_ret2
  all_goals exact ⟨by rw [HN.out, HT.out]; rfl, below_drew1 (below_alloc HB2.out _)⟩
end Go.Proofs.YtiabggpijomjmaaDoor
namespace Go.Proofs.YtiabggpijomjmaaDoor
open Go.RowKit Print Go.Proofs.YtiabggpijomjmaaDoorW.PrintWords Go.Proofs.YtiabggpijomjmaaDoorW.PrintLast Go.Proofs.YtiabggpijomjmaaDoorW.PrintMore
open Go.Maps (Keyed IsMap has)
set_option linter.unusedVariables false
set_option maxHeartbeats 2000000 in
set_option maxRecDepth 100000 in
theorem get_bad {g : Nat} {p : S76} {er : Int} (A : Option Addr) (m c : Nat) (W : World) (he : er ≠ 0) (hof : OfK W (.slice A m c) p er) :
    Calls Tryd.prog 18 #[.pointer (some ⟨g, 0, none⟩), .slice A m c] W fun e w' => e = .returned (.tuple #[.int .i64 0, .bool false]) ∧ Below W.heap.size W w' := by
  have hu76 := Tryd.underlying76
  have HO := Aside0.mk hof
  have he1 : (er == 0) = false := beq_eq_false_iff_ne.2 he
  have he2 : (er = 0) = False := eq_false he
  clear hof he
  go_enter Tryd.func18, Tryd.ntmps18
  go_wp2_with (first
    | (go_at_call 30; refine (HO.out _ (by repeat (first | exact Below.refl _ _ | apply below_alloc | apply pw_below_drewN | apply below_drew1))).mono ?_; rintro e w1 ⟨rfl, hb⟩; have HW1 := Aside0.mk hb; clear hb))
  go_ret2
  exact ⟨rfl, below_alloc HW1.out _⟩
set_option maxHeartbeats 2000000 in
set_option maxRecDepth 100000 in
theorem len_any {g b n : Nat} {okS : Nat → Prop} {v : Value} {nx : Int} {D : DataW Unit} {l : Mp} (W : World) (h : MB W g b n okS v nx D l) :
    Calls Tryd.prog 21 #[.pointer (some ⟨g, 0, none⟩)] W fun e w' => e = .returned (.int .i64 l.length) ∧ Below W.heap.size W w' := by
  have hu74 := Tryd.underlying74
  obtain ⟨A, c, rfl⟩ := Kd.R_slice h.rows
  obtain ⟨a0, a1, a2⟩ := h.at_.cells
  clear h
  rw [List.length_map] at a1
  go_enter Tryd.func21, Tryd.ntmps21
  go_wp2
  go_ret
  exact ⟨rfl, Below.refl _ _⟩
set_option maxHeartbeats 2000000 in
set_option maxRecDepth 100000 in
theorem new_any (W : World) : Calls Tryd.prog 13 #[] W fun e w' => ∃ g, e = .returned (.pointer (some ⟨g, 0, none⟩)) ∧ Below W.heap.size W w' ∧ W.heap.size ≤ g ∧ MB w' g W.heap.size 0 (fun _ => False) (.slice none 0 0) 0 (.map []) [] ∧ g ≠ W.heap.size := by
  have hu74 := Tryd.underlying74
  have hmm := @run_makeMap Tryd.prog
  go_enter Tryd.func13, Tryd.ntmps13
  go_wp2
  go_ret
  have hm := World.ownsMap_made W Tryd.prog 76 R80
  have hb := below_alloc (below_alloc (Below.refl W.heap.size W) (.map #[] 0)) (.cells #[.map (some W.heap.size), .slice none 0 0, .int .i64 0] 74)
  refine ⟨_, rfl, hb, by simp, ⟨by simpa [MAt] using heap_alloc_new (W.alloc (.map #[] 0)) (.cells #[.map (some W.heap.size), .slice none 0 0, .int .i64 0] 74), hm.alloc _, Tie.nil, Kd.R_nil _ _ _ _ _, by simp, id, id, fun _ h => h.elim⟩, by simp⟩
end Go.Proofs.YtiabggpijomjmaaDoor
namespace Go.Proofs.YtiabggpijomjmaaDoor
open Go.RowKit Print Go.Proofs.YtiabggpijomjmaaDoorW.PrintWords Go.Proofs.YtiabggpijomjmaaDoorW.PrintLast Go.Proofs.YtiabggpijomjmaaDoorW.PrintMore
open Go.Maps (Keyed IsMap has)
set_option linter.unusedVariables false
/-- What stands behind the look-up: the key's box, the entry's box. -/
structure Mid (W : World) (p : S76) (N : Int) (kb xb : Nat) (s : Int) (wx : World) : Prop where
  below : Below W.heap.size W wx
  k0 : W.heap.size ≤ kb
  k1 : kb < xb
  key : wx.heap[kb]? = some (.cells #[.string p.f0, .int .i64 p.f1] 76 (0, 0))
  ent : wx.heap[xb]? = some (.cells #[.int .i64 N, .int .i64 s] 80 (0, 0))
/-- Does a sum leave the numbers? -/
def over (N x S : Int) : Bool := (decide (N < 0) == decide (x < 0)) && (decide (S < 0) != decide (x < 0))
/-- What stands when the rows are as they shall be. -/
def Mid2 (W : World) (p : S76) (N : Int) (g b kb xb n : Nat) (okS : Nat → Prop) (D : DataW Unit) (rws : List S76) (wx : World) : Prop :=
  ∃ (okS' : Nat → Prop) (v' : Value) (nx' s' : Int), MAt wx g b v' nx' ∧ wx.ownsMap Tryd.prog 76 R80 b n D ∧ k76.R 76 wx 0 okS' v' rws ∧ ¬ okS' g ∧ ¬ okS' b ∧ (∀ k, okS' k → k < wx.heap.size) ∧ K3 W wx (fun k => k = g ∨ k = b ∨ okS k) ∧
    (∀ k, okS' k → okS k ∨ W.heap.size ≤ k) ∧ wx.heap[kb]? = some (.cells #[.string p.f0, .int .i64 p.f1] 76 (0, 0)) ∧ wx.heap[xb]? = some (.cells #[.int .i64 N, .int .i64 s'] 80 (0, 0)) ∧ ¬ okS' kb ∧ ¬ okS' xb
theorem mid2_same {W wc : World} {p : S76} {N s : Int} {g b kb xb n : Nat} {okS : Nat → Prop} {v : Value} {nx : Int} {D : DataW Unit} {l : Mp} (h : MB W g b n okS v nx D l) (hm : Mid W p N kb xb s wc) : Mid2 W p N g b kb xb n okS D (l.map (·.1)) wc := by
  have hB := h.below hm.below
  exact ⟨okS, v, nx, s, hB.at_, hB.map, hB.rows, h.gS, h.bS, hB.lS, K3.of_below hm.below _, fun _ => .inl, hm.key, hm.ent, fun hk => by have := h.lS _ hk; have := hm.k0; omega, fun hk => by have := h.lS _ hk; have := hm.k0; have := hm.k1; omega⟩
/-- Behind 'next++': the map's parts, for the append. -/
structure Nxt (W : World) (p : S76) (N : Int) (g b kb xb n : Nat) (okS : Nat → Prop) (v : Value) (D : DataW Unit) (l : Mp) (wx : World) : Prop where
  at_ : ∃ nx', MAt wx g b v nx'
  map : wx.ownsMap Tryd.prog 76 R80 b n D
  rows : k76.R 76 wx 0 okS v (l.map (·.1))
  kept : K3 W wx (fun k => k = g ∨ k = b ∨ okS k)
  k0 : W.heap.size ≤ kb
  k1 : kb < xb
  key : wx.heap[kb]? = some (.cells #[.string p.f0, .int .i64 p.f1] 76 (0, 0))
  ent : ∃ s', wx.heap[xb]? = some (.cells #[.int .i64 N, .int .i64 s'] 80 (0, 0))
theorem nxt_of {W wc : World} {p : S76} {N s y : Int} {g b kb xb n : Nat} {okS : Nat → Prop} {v : Value} {nx : Int} {D : DataW Unit} {l : Mp} (h : MB W g b n okS v nx D l) (hm : Mid W p N kb xb s wc) : Nxt W p N g b kb xb n okS v D l ((wc.setCell ⟨g, 2, none⟩ (.int .i64 y)).setCell ⟨xb, 1, none⟩ (.int .i64 y)) := by
  have hB := h.below hm.below
  have g0 := h.at_.lt
  have b0 := h.map.lt
  have k0 := hm.k0
  have k1 := hm.k1
  have k3 : K3 wc ((wc.setCell ⟨g, 2, none⟩ (.int .i64 y)).setCell ⟨xb, 1, none⟩ (.int .i64 y)) (fun k => k = g ∨ k = xb) := ((K3.refl _ _).setCell (p := ⟨g, 2, none⟩) (.inl (.inl rfl)) _).setCell (p := ⟨xb, 1, none⟩) (.inl (.inr rfl)) _
  refine ⟨⟨y, ?_⟩, ownsMap_kept hB.map k3 (fun h' => h'.elim (fun e => h.gb e.symm) (fun e => by omega)), K3.R hB.rows k3 (fun k hk h' => h'.elim (fun e => h.gS (e ▸ hk)) (fun e => by have := h.lS k hk; omega)), ?_, k0, k1, K3.blk hm.key k3 (fun h' => h'.elim (fun e => by omega) (fun e => by omega)), s + 0 * s + (y - s), ?_⟩
  · exact (blk_far (hB.at_.set_next y) (p := ⟨xb, 1, none⟩) (by show g ≠ xb; omega) _)
  · exact (K3.of_below hm.below _).then_ k3 (fun k hk => hk.elim (fun e => .inl (.inl e)) (fun e => .inr (by omega)))
  · have e1 : (wc.setCell ⟨g, 2, none⟩ (.int .i64 y)).heap[xb]? = some (.cells #[.int .i64 N, .int .i64 s] 80 (0, 0)) := blk_far hm.ent (p := ⟨g, 2, none⟩) (by show xb ≠ g; omega) _
    have e2 : s + 0 * s + (y - s) = y := by omega
    rw [e2]
    exact blk_put e1 1 (.int .i64 y) rfl
/-- Behind the append and its store. -/
theorem mid2_app {W wx w1 w2 : World} {p : S76} {N : Int} {g b kb xb n : Nat} {okS : Nat → Prop} {v v2 : Value} {D : DataW Unit} {l : Mp} {R : List S76} (g0 : g < W.heap.size) (b0 : b < W.heap.size) (gb : g ≠ b) (gS : ¬ okS g) (bS : ¬ okS b) (lS : ∀ k, okS k → k < W.heap.size)
    (h : Nxt W p N g b kb xb n okS v D l wx) (hw1 : Below wx.heap.size wx w1) (hR : k76.R 76 w2 0 (fun k => okS k ∨ wx.heap.size ≤ k) v2 R) (hg : w1.grownBy w2 v.ownBlock) : Mid2 W p N g b kb xb n okS D R (w2.setCell ⟨g, 1, none⟩ v2) := by
  have hsz := h.kept.1
  have hv := h.rows.1
  have k2 : K3 wx w2 (fun k => okS k) := K3.of_grown hg (K3.of_below hw1 _) (fun k hk => .inl (hv k hk))
  have k3 : K3 wx (w2.setCell ⟨g, 1, none⟩ v2) (fun k => okS k ∨ k = g) := (k2.mono (fun k hk => .inl hk)).setCell (p := ⟨g, 1, none⟩) (.inl (.inr rfl)) _
  obtain ⟨nx', hA⟩ := h.at_
  obtain ⟨s', he⟩ := h.ent
  have kk0 := h.k0
  have kk1 := h.k1
  have nb : ∀ k, W.heap.size ≤ k → ¬ (okS k ∨ k = g) := fun k hk h' => h'.elim (fun h' => by have := lS k h'; omega) (fun e => by omega)
  have ek : ∀ k, k < wx.heap.size → ¬ okS k → ¬ ((okS k ∨ wx.heap.size ≤ k) ∧ k < w2.heap.size) := fun k hk hn h' => h'.1.elim hn (fun h'' => by omega)
  have hsz2 : (w2.setCell ⟨g, 1, none⟩ v2).heap.size = w2.heap.size := by simp [World.setCell]
  refine ⟨fun k => (okS k ∨ wx.heap.size ≤ k) ∧ k < w2.heap.size, v2, nx', s', (hA.kept k2 gS).set_rows v2, ownsMap_kept h.map k3 (fun h' => h'.elim bS (fun e => gb e.symm)), Kd.R_far (Kd.R_mono (Kd.R_bound hR) (fun k hk => ⟨hk.1, hk.2.2.1⟩)) (p := ⟨g, 1, none⟩) (fun k hk e => ek k (by show k < _; have : k = g := e; omega) (by have : k = g := e; rw [this]; exact gS) hk) _,
    ek g (by omega) gS, ek b (by omega) bS, fun k hk => by rw [hsz2]; exact hk.2, h.kept.then_ k3 (fun k hk => hk.elim (fun h' => .inl (.inr (.inr h'))) (fun e => .inl (.inl e))), fun k hk => hk.1.imp id (fun h' => Nat.le_trans hsz h'), K3.blk h.key k3 (nb kb kk0), K3.blk he k3 (nb xb (by omega)), ek kb (blk_lt h.key) (fun h' => nb kb kk0 (.inl h')), ek xb (blk_lt he) (fun h' => nb xb (by omega) (.inl h'))⟩
theorem add_app {W wx w2 : World} {p : S76} {N S : Int} {g b kb xb n : Nat} {okS : Nat → Prop} {v : Value} {nx : Int} {D : DataW Unit} {l : Mp} {A2 : Option Addr} {c2 : Nat} (hB : MB W g b n okS v nx D l) (ht : (look l p).isSome = false)
    (h : Nxt W p N g b kb xb n okS v D l wx) (hR : k76.R 76 w2 0 (fun k => okS k ∨ wx.heap.size ≤ k) (.slice A2 ((l.map (·.1)).length + 1) c2) (l.map (·.1) ++ [p])) (hg : wx.drew.grownBy w2 v.ownBlock) :
    Mid2 W p N g b kb xb n okS D ((put l p S).map (·.1)) (w2.setCell ⟨g, 1, none⟩ (.slice A2 (l.length + 1) c2)) := by
  have hn : look l p = none := by
    cases e : look l p with
    | none => rfl
    | some x => rw [e] at ht; cases ht
  have h2 := mid2_app hB.at_.lt hB.map.lt hB.gb hB.gS hB.bS hB.lS h (below_drew1 (Below.refl _ _)) hR hg
  rw [List.length_map] at h2
  rw [put_rows_new l p S hn]
  exact h2
/-- What Add leaves. -/
def AddP (W : World) (g b n : Nat) (okS : Nat → Prop) (l' : Mp) (w' : World) : Prop :=
  ∃ (okS' : Nat → Prop) (v' : Value) (nx' : Int) (D' : DataW Unit), MB w' g b n okS' v' nx' D' l' ∧ K3 W w' (fun k => k = g ∨ k = b ∨ okS k) ∧ ∀ k, okS' k → okS k ∨ W.heap.size ≤ k
theorem heap_alloc_old' {w : World} {k : Nat} {o o2 : Obj} (h : w.heap[k]? = some o) : (w.alloc o2).heap[k]? = some o := (below_alloc (Below.refl w.heap.size w) o2).block k (blk_lt h) |>.trans h
theorem upd_of {W wc : World} {p : S76} {N S : Int} {g b kb xb n : Nat} {okS : Nat → Prop} {v : Value} {nx : Int} {D : DataW Unit} {l : Mp} (hB : MB W g b n okS v nx D l) (hp : Okk p) (hn : n < maxLen) (k0 : W.heap.size ≤ kb) (k1 : kb < xb)
    (h : Mid2 W p N g b kb xb n okS D ((put l p S).map (·.1)) wc) :
    wc.frozen? ⟨xb, 0, none⟩ = false ∧ wc.cell? ⟨xb, 0, none⟩ = some (.int .i64 N) ∧ ∃ y, ((wc.setCell ⟨xb, 0, none⟩ (.int .i64 S)).cell? ⟨g, 0, none⟩ = some (.map (some b)) ∧ (wc.setCell ⟨xb, 0, none⟩ (.int .i64 S)).cell? ⟨kb, 0, none⟩ = some (.string p.f0) ∧ (wc.setCell ⟨xb, 0, none⟩ (.int .i64 S)).cell? ⟨kb, 1, none⟩ = some (.int .i64 p.f1) ∧ (wc.setCell ⟨xb, 0, none⟩ (.int .i64 S)).cell? ⟨xb, 0, none⟩ = some (.int .i64 S) ∧ (wc.setCell ⟨xb, 0, none⟩ (.int .i64 S)).cell? ⟨xb, 1, none⟩ = some (.int .i64 y)) ∧
      ∃ w3, (Instr.mapUpdate 71 (.map (some b)) (.agg #[.string p.f0, .int .i64 p.f1]) (.agg #[.int .i64 S, .int .i64 y])).run Tryd.prog (wc.setCell ⟨xb, 0, none⟩ (.int .i64 S)).drew = .ok () w3 ∧
        (w3.cell? ⟨g, 0, none⟩ = some (.map (some b)) ∧ w3.cell? ⟨kb, 0, none⟩ = some (.string p.f0) ∧ w3.cell? ⟨kb, 1, none⟩ = some (.int .i64 p.f1) ∧ w3.cell? ⟨xb, 0, none⟩ = some (.int .i64 S) ∧ w3.cell? ⟨xb, 1, none⟩ = some (.int .i64 y)) ∧
        AddP W g b (n + 1) okS (put l p S) w3 := by
  obtain ⟨okS', v', nx', s', hA, hM, hR, nG, nB, hlt, hK, hsub, hkey, hent, nkb, nxb⟩ := h
  have g0 := hB.at_.lt
  have b0 := hB.map.lt
  have k3 : K3 wc (wc.setCell ⟨xb, 0, none⟩ (.int .i64 S)) (fun k => k = xb) := (K3.refl wc (fun k => k = xb)).setCell (p := ⟨xb, 0, none⟩) (.inl rfl) _
  have hA' := hA.kept k3 (by show ¬ g = xb; omega)
  have hM' := ownsMap_kept hM k3 (by show ¬ b = xb; omega)
  have hR' := K3.R hR k3 (fun k hk e => nxb (by have : k = xb := e; rwa [this] at hk))
  have hkey' := K3.blk hkey k3 (by show ¬ kb = xb; omega)
  have hent' : (wc.setCell ⟨xb, 0, none⟩ (.int .i64 S)).heap[xb]? = some (.cells #[.int .i64 S, .int .i64 s'] 80 (0, 0)) := blk_put hent 0 (.int .i64 S) rfl
  have hMd : (wc.setCell ⟨xb, 0, none⟩ (.int .i64 S)).drew.ownsMap Tryd.prog 76 R80 b n D := hM'.drew
  obtain ⟨w3, hrun, hown, hturn⟩ := hMd.store K76 Tryd.underlying71 hn (keyOf76 p hp) (R80_mk S s')
  have hg := hturn.grown
  have k4 : K3 (wc.setCell ⟨xb, 0, none⟩ (.int .i64 S)) w3 (fun k => k = b) := ((K3.refl _ (fun k => k = b)).drew).then_ (S2 := fun k => k = b) ⟨hg.size, fun i hi hn' => hg.block i hi (fun he => hn' (Option.some.inj he)), hg.os, hg.tape, hg.output⟩ (fun k hk => .inl hk)
  have hA3 := hA'.kept k4 hB.gb
  have hkey3 := K3.blk hkey' k4 (by show ¬ kb = b; omega)
  have hent3 := K3.blk hent' k4 (by show ¬ xb = b; omega)
  refine ⟨blk_frozen hent 0, (blk_cell hent 0).trans rfl, s', ⟨hA'.cells.1, (blk_cell hkey' 0).trans rfl, (blk_cell hkey' 1).trans rfl, (blk_cell hent' 0).trans rfl, (blk_cell hent' 1).trans rfl⟩, w3, hrun, ⟨hA3.cells.1, (blk_cell hkey3 0).trans rfl, (blk_cell hkey3 1).trans rfl, (blk_cell hent3 0).trans rfl, (blk_cell hent3 1).trans rfl⟩,
    okS', v', nx', D.put (kl p) (.lit (.int .i64 S)), ⟨hA3, hown, hB.tie.put hp S, K3.R hR' k4 (fun k hk e => nB (by have : k = b := e; rwa [this] at hk)), hB.gb, nG, nB, fun k hk => Nat.lt_of_lt_of_le (Nat.lt_of_lt_of_le (hlt k hk) k3.1) k4.1⟩, (hK.then_ k3 (fun k e => .inr (by have : k = xb := e; omega))).then_ k4 (fun k e => .inl (.inr (.inl e))), hsub⟩
theorem dec76 : 0 < k76.sz := Nat.zero_lt_two
theorem dec24 : 0 < 24 := by decide
set_option maxHeartbeats 1000000 in
set_option maxRecDepth 100000 in
theorem add_any {g b n : Nat} {okS : Nat → Prop} {v : Value} {nx : Int} {D : DataW Unit} {l : Mp} {p : S76} (A : Option Addr) (m c : Nat) (x : Int) (W : World) (h : MB W g b n okS v nx D l) (hp : Okk p) (hl : l.length ≤ 1099511627776) (hn : n < maxLen) (hof : OfK W (.slice A m c) p 0) :
    Calls Tryd.prog 14 #[.pointer (some ⟨g, 0, none⟩), .slice A m c, .int .i64 x] W fun e w' => (over ((look l p).getD 0) x (wrap64 ((look l p).getD 0 + x)) = true → e = .returned (.tuple #[.int .i64 0, .int .i64 20]) ∧ Below W.heap.size W w') ∧ (¬ over ((look l p).getD 0) x (wrap64 ((look l p).getD 0 + x)) = true → e = .returned (.tuple #[.int .i64 (wrap64 ((look l p).getD 0 + x)), .int .i64 0]) ∧ AddP W g b (n + 1) okS (put l p (wrap64 ((look l p).getD 0 + x))) w') := by
  have hu76 := Tryd.underlying76
  have hu80 := Tryd.underlying80
  have hu74 := Tryd.underlying74
  have HB := Aside0.mk h
  have HP := Aside0.mk hp
  have HO := Aside0.mk hof
  have HL := Aside0.mk hl
  have HNM := Aside0.mk hn
  clear h hp hof hl hn
  go_enter Tryd.func14, Tryd.ntmps14
  go_upto_region 6 with (first
    | (go_at_call 30; refine (HO.out _ (by repeat (first | exact Below.refl _ _ | apply below_alloc | apply pw_below_drewN | apply below_drew1))).mono ?_; rintro e w1 ⟨rfl, hb⟩; have HW1 := Aside0.mk hb; clear hb))
  have hb2 := below_alloc HW1.out (.cells #[.string p.f0, .int .i64 p.f1] 76)
  obtain ⟨s1, e1⟩ := look_run (ownsMap_below HB.out.map (below_drew1 hb2)) HB.out.tie HP.out
  obtain ⟨s2, e2⟩ := look_run (ownsMap_below HB.out.map (below_drew1 (below_alloc hb2 (.cells #[.int .i64 0, .int .i64 0] 80)))) HB.out.tie HP.out
  have HB2 := Aside0.mk hb2
  have q0 : (w1.alloc (.cells #[.string p.f0, .int .i64 p.f1] 76)).cell? ⟨g, 0, none⟩ = some (.map (some b)) := (HB.out.below hb2).at_.cells.1
  have hkey : (w1.alloc (.cells #[.string p.f0, .int .i64 p.f1] 76)).heap[w1.heap.size]? = some (.cells #[.string p.f0, .int .i64 p.f1] 76 (0, 0)) := heap_alloc_new _ _
  have q1 : (w1.alloc (.cells #[.string p.f0, .int .i64 p.f1] 76)).cell? ⟨w1.heap.size, 0, none⟩ = some (.string p.f0) := by go_simp
  have q2 : (w1.alloc (.cells #[.string p.f0, .int .i64 p.f1] 76)).cell? ⟨w1.heap.size, 1, none⟩ = some (.int .i64 p.f1) := by go_simp
  have HK := Aside0.mk (And.intro HW1.out.size hkey)
  clear hb2 hkey
  generalize w1.alloc (.cells #[.string p.f0, .int .i64 p.f1] 76) = W2 at *
  generalize w1.heap.size = kb at *
  obtain ⟨N, hN⟩ : ∃ N, (look l p).getD 0 = N := ⟨_, rfl⟩
  obtain ⟨t, ht⟩ : ∃ t, (look l p).isSome = t := ⟨_, rfl⟩
  rw [hN, ht] at e1 e2
  have HN := Aside0.mk hN
  have HT := Aside0.mk ht
  clear hN ht
  go_cut [10, 11] (fun v10 v11 wx => v10 = .pointer (some ⟨W2.heap.size, 0, none⟩) ∧ v11 = .bool t ∧ ∃ s, Aside0 (Mid W p N kb W2.heap.size s wx))
  case first =>
    go_region_held3 (fun w' => w'.cell? ⟨g, 0, none⟩ = some (.map (some b)) ∧ w'.cell? ⟨kb, 0, none⟩ = some (.string p.f0) ∧ w'.cell? ⟨kb, 1, none⟩ = some (.int .i64 p.f1)) (first | go_keep) (first | fail)
    all_goals (go_wp2_with fail)
    all_goals go_meet
    case rel => exact ⟨rfl, rfl, _, ⟨⟨below_drew1 (below_alloc HB2.out _), HK.out.1, blk_lt HK.out.2, heap_alloc_old' HK.out.2, heap_alloc_new _ _⟩⟩⟩
    case rel => exact ⟨rfl, rfl, _, ⟨⟨below_drew1 (below_alloc HB2.out _), HK.out.1, blk_lt HK.out.2, heap_alloc_old' HK.out.2, heap_alloc_new _ _⟩⟩⟩
  case rest =>
    clear e1 e2 q0 q1 q2
    generalize W2.heap.size = xb at *
    obtain ⟨rfl, rfl, s, HM⟩ := hcut
    have x0 : wc.cell? ⟨xb, 0, none⟩ = some (.int .i64 N) := (blk_cell HM.out.ent 0).trans rfl
    have x1 : wc.cell? ⟨xb, 1, none⟩ = some (.int .i64 s) := (blk_cell HM.out.ent 1).trans rfl
    have k0 : wc.cell? ⟨kb, 0, none⟩ = some (.string p.f0) := (blk_cell HM.out.key 0).trans rfl
    have k1 : wc.cell? ⟨kb, 1, none⟩ = some (.int .i64 p.f1) := (blk_cell HM.out.key 1).trans rfl
    go_upto_region 8 with fail
    obtain ⟨S, hS⟩ : ∃ S, wrap64 (N + x) = S := ⟨_, rfl⟩
    rw [hS]
    have HS := Aside0.mk hS
    clear hS
    obtain ⟨b1, hb1⟩ : ∃ b1, decide (N < 0) = b1 := ⟨_, rfl⟩
    obtain ⟨b2, hb2⟩ : ∃ b2, decide (x < 0) = b2 := ⟨_, rfl⟩
    obtain ⟨b3, hb3⟩ : ∃ b3, decide (S < 0) = b3 := ⟨_, rfl⟩
    have hov : over N x S = ((b1 == b2) && (b3 != b2)) := by rw [← hb1, ← hb2, ← hb3]; rfl
    by_cases hover : over N x S = true
    · have hc := hover
      rw [hov, Bool.and_eq_true] at hc
      obtain ⟨hc1, hc2⟩ := hc
      have hc3 : (b3 == b2) = false := by simpa [bne] using hc2
      have HV := Aside0.mk hover
      clear hov hover
      go_wp2_with fail
      go_ret2
      rw [HN.out, HS.out]
      exact ⟨fun _ => ⟨rfl, HM.out.below⟩, fun h => absurd HV.out h⟩
    · have hc : ((b1 == b2) && (b3 != b2)) = false := by rw [← hov]; simpa using hover
      have HV := Aside0.mk hover
      clear hov hover
      go_cut [48] (fun v48 wx => v48 = .bool false ∧ wx = wc)
      case first =>
        cases h1 : (b1 == b2)
        · clear hc
          go_wp2_with fail
          go_meet
          case rel => exact ⟨rfl, rfl⟩
        · have h2 : (b3 == b2) = true := by rw [h1] at hc; simpa [bne] using hc
          clear hc
          go_wp2_with fail
          go_meet
          case rel => exact ⟨rfl, rfl⟩
      case rest =>
        clear hc hb1 hb2 hb3
        obtain ⟨rfl, rfl⟩ := hcut
        go_upto_if 50 with fail
        go_cut [] (fun wx => Aside0 (Mid2 W p N g b kb xb n okS D ((put l p S).map (·.1)) wx))
        case first =>
          cases t with
          | true =>
            go_wp2_with fail
            go_meet
            case rel => exact ⟨by rw [put_rows_old l p S HT.out]; exact mid2_same HB.out HM.out⟩
          | false =>
            obtain ⟨c0, c1, c2⟩ := (HB.out.below HM.out.below).at_.cells
            have f2 := (HB.out.below HM.out.below).at_.frozen 2
            have f1 := (HB.out.below HM.out.below).at_.frozen 1
            have fx := blk_frozen HM.out.ent 1
            go_upto_region 13 with fail
            have hn := nxt_of (y := wrap64 (nx + 1)) HB.out HM.out
            generalize (wc.setCell ⟨g, 2, none⟩ (.int .i64 (wrap64 (nx + 1)))).setCell ⟨xb, 1, none⟩ (.int .i64 (wrap64 (nx + 1))) = W13 at hn ⊢
            obtain ⟨nx', hA⟩ := hn.at_
            obtain ⟨d0, d1, d2⟩ := hA.cells
            have z1 := hA.frozen 1
            have y0 : W13.cell? ⟨kb, 0, none⟩ = some (.string p.f0) := (blk_cell hn.key 0).trans rfl
            have y1 : W13.cell? ⟨kb, 1, none⟩ = some (.int .i64 p.f1) := (blk_cell hn.key 1).trans rfl
            have NX := Aside0.mk hn
            have HA := Aside0.mk hA
            have d1' : W13.drew.cell? ⟨g, 1, none⟩ = some v := d1
            have HDR : Aside0 ((W13.alloc (.cells #[.string p.f0, .int .i64 p.f1] 76)).drew = W13.drew.alloc (.cells #[.string p.f0, .int .i64 p.f1] 76)) := ⟨rfl⟩
            have HRO : Aside0 (k76.R 76 W13.drew 0 (fun k => okS k ∨ W13.heap.size ≤ k) v (l.map (·.1))) := ⟨Kd.R_mono (Kd.R_drew NX.out.rows) (fun _ h => .inl h)⟩
            have HLL : Aside0 (((l.map (·.1)).length + 1) * 24 ≤ 140737488355328) := ⟨by rw [List.length_map]; have := HL.out; omega⟩
            have d1a : (W13.alloc (.cells #[.string p.f0, .int .i64 p.f1] 76)).cell? ⟨g, 1, none⟩ = some v := (hA.below (below_alloc (Below.refl _ _) _)).cells.2.1
            have hA' : MAt W13.drew g b v nx' := hA
            have NE : Aside0 (some g ≠ v.ownBlock) := ⟨fun e => HB.out.gS (HB.out.rows.1 g e.symm)⟩
            clear hn hA x0 x1 k0 k1 c0 c1 c2 f1 f2 fx
            go_region_law (first | (rw [HDR.out]; refine Kd.R_append_step k76 (W := W13.drew) (w0 := W13.drew) 0 rfl (.tmp 67) (.tmp 69) 72 76 (.agg #[.string ⟨#[]⟩, .int .i64 0]) 24 rfl Tryd.underlying72 info76 rfl dec76 dec24 v (l.map (·.1)) p [.string p.f0, .int .i64 p.f1] (fun k => okS k ∨ W13.heap.size ≤ k) (fun _ => False) rfl rfl ?_ ?_ ?_ ?_ ?_ ?_ ?_ ?_; (· exact k76_mkM _ _ _ p); (· exact fun _ h => False.elim h); (· exact fun k hk => .inr hk); (· exact HRO.out); (· exact Below.refl _ _); (· exact Nat.zero_le _); (· exact HLL.out); intro v2 w2 ho2 hb2 hg2 hat2; obtain ⟨A2, c2, rfl⟩ := Kd.R_slice ho2; rw [List.length_append, List.length_singleton] at ho2 ⊢; have HO2 := Aside0.mk ho2; have HG2 := Aside0.mk hg2; have y2 : w2.cell? ⟨g, 1, none⟩ = some v := cell_grown hg2 (d1') NE.out; have q2 : w2.frozen? ⟨g, 1, none⟩ = false := MAt.frozen (blk_grown (hA') hg2 NE.out) 1; clear ho2 hb2 hg2 hat2))
            all_goals go_wp2_with fail
            all_goals go_meet
            all_goals refine ⟨add_app HB.out HT.out NX.out HO2.out HG2.out⟩
        case rest =>
          have HM2 := hcut
          have HKX := Aside0.mk (And.intro HM.out.k0 HM.out.k1)
          clear hcut HM x0 x1 k0 k1
          obtain ⟨fx, x0, y, hcs, w3, hrun, hds, hadd⟩ := upd_of (S := S) HB.out HP.out HNM.out HKX.out.1 HKX.out.2 HM2.out
          have HAD := Aside0.mk hadd
          clear HM2 hadd
          go_upto_region 15 with fail
          generalize wc.setCell ⟨xb, 0, none⟩ (.int .i64 S) = W14 at *
          obtain ⟨e0, e1, e2, e3, e4⟩ := hcs
          obtain ⟨d0, d1, d2, d3, d4⟩ := hds
          go_region_held3 (fun w' => w'.cell? ⟨g, 0, none⟩ = some (.map (some b)) ∧ w'.cell? ⟨kb, 0, none⟩ = some (.string p.f0) ∧ w'.cell? ⟨kb, 1, none⟩ = some (.int .i64 p.f1) ∧ w'.cell? ⟨xb, 0, none⟩ = some (.int .i64 S) ∧ w'.cell? ⟨xb, 1, none⟩ = some (.int .i64 y)) (first | go_keep) (first | fail)
          go_wp2_with fail
          go_ret2
          rw [HN.out, HS.out]
          exact ⟨fun h => absurd h HV.out, fun _ => ⟨rfl, HAD.out⟩⟩
end Go.Proofs.YtiabggpijomjmaaDoor
namespace Go.Proofs.YtiabggpijomjmaaDoor
open Go.RowKit Print Go.Proofs.YtiabggpijomjmaaDoorW.PrintWords Go.Proofs.YtiabggpijomjmaaDoorW.PrintLast Go.Proofs.YtiabggpijomjmaaDoorW.PrintMore
open Go.Maps (Keyed IsMap has)
set_option linter.unusedVariables false
abbrev kS : Kd (List S53) := Kd.slice 53 k53
/-- What the bytes of a key decode to, at every world to come. -/
abbrev DecK (W : World) (dec : S76 → List S53) (l : List S76) : Prop :=
  ∀ x ∈ l, ∀ w1, Below W.heap.size W w1 → Calls Tryd.prog 9 #[.string x.f0] w1 fun e w' => ∃ (v : Value) (er : Int), e = .returned (.tuple #[v, .int .i64 er]) ∧ Kd.R k53 53 w' w1.heap.size (fun _ => True) v (dec x) ∧ Below w1.heap.size w1 w'
theorem rd_mem (l : List S76) (i : Nat) (hi : i < l.length) : rd_T76 l i ∈ l := by
  unfold rd_T76
  rw [Int.toNat_natCast, List.getD_eq_getElem?_getD, List.getElem?_eq_getElem hi]
  exact List.getElem_mem hi
theorem take_rd (l : List S76) (i : Nat) (hi : i < l.length) : l.take (i + 1) = l.take i ++ [rd_T76 l i] := by
  unfold rd_T76
  rw [Int.toNat_natCast, List.getD_eq_getElem?_getD, List.getElem?_eq_getElem hi, List.take_add_one, List.getElem?_eq_getElem hi]
  rfl
theorem wrap_nat {i : Nat} (h : i ≤ 1099511627776) : wrap64 ((i : Int) + 1) = ((i + 1 : Nat) : Int) := by
  unfold wrap64
  omega
theorem rows_ok {wr w1 : World} {base : Nat} {ok : Nat → Prop} {b3 v1 : Value} {o : Obj} {xs : List (List S53)} {r : List S53} (h : kS.R 22 wr base ok b3 xs) (hr : k53.R 53 w1 (wr.alloc o).heap.size (fun _ => True) v1 r) :
    ∀ k, (True ∧ (wr.alloc o).heap.size ≤ k ∧ k < w1.heap.size ∧ ∃ q, q ∈ 53 :: k53.E ∧ ∃ cells, w1.heap[k]? = some (.cells cells q (0, 0))) → True ∧ some k ≠ b3.ownBlock := fun k hk => ⟨trivial, fun e => by
  have := ((Kd.R_bound h).1 k e.symm).2.2.1
  have h2 := hk.2.1
  simp at h2
  omega⟩
set_option maxHeartbeats 2000000 in
set_option maxRecDepth 100000 in
theorem rows_any {g b n : Nat} {okS : Nat → Prop} {v : Value} {nx : Int} {D : DataW Unit} {l : Mp} (dec : S76 → List S53) (W : World) (h : MB W g b n okS v nx D l) (hl : l.length ≤ 1099511627776) (hdec : DecK W dec (l.map (·.1))) :
    Calls Tryd.prog 20 #[.pointer (some ⟨g, 0, none⟩)] W fun e w' => ∃ v', e = .returned v' ∧ kS.R 22 w' W.heap.size (fun _ => True) v' ((l.map (·.1)).map dec) ∧ Below W.heap.size W w' := by
  have hu74 := Tryd.underlying74
  have hu76 := Tryd.underlying76
  obtain ⟨A, c, rfl, hlc, hC⟩ := Kd.R_reads h.rows
  obtain ⟨a0, a1, a2⟩ := h.at_.cells
  clear h
  rw [← List.length_map (f := (·.1))] at hl
  generalize l.map (·.1) = ks at *
  have HC := Aside0.mk hC
  have HD := Aside0.mk hdec
  have HL := Aside0.mk hl
  clear hC hdec hl
  go_enter Tryd.func20, Tryd.ntmps20
  go_wp2
  go_loopg [3, 15] (ks.length + 1) (fun kq v3 v15 w' => ∃ i : Nat, v15 = .int .i64 i ∧ Aside0 (kq + i = ks.length + 1) ∧ Aside0 (i ≤ ks.length) ∧ Aside0 (kS.R 22 w' W.heap.size (fun _ => True) v3 ((ks.take i).map dec)) ∧ Aside0 (Below W.heap.size W w'))
  case atStart => exact ⟨0, by simp, ⟨by omega⟩, ⟨Nat.zero_le _⟩, ⟨Kd.R_nil _ _ _ _ _⟩, ⟨Below.refl _ _⟩⟩
  case round =>
    obtain ⟨i, rfl, HK, HI, HR, HB⟩ := hrel
    by_cases hlt : i < ks.length
    · obtain ⟨k1, rfl⟩ : ∃ k1, gk = k1 + 1 := ⟨gk - 1, by have := HK.out; omega⟩
      have hj0 : (0 : Int) ≤ (i : Int) := by omega
      have hj1 : (i : Int) < (ks.length : Int) := by omega
      have hjd : decide ((i : Int) < (ks.length : Int)) = true := decide_eq_true hj1
      obtain ⟨ad, rfl, y0, y1⟩ := at_T76 (Kd.C_below HC.out HB.out) (i : Int) hj0 hj1
      rw [Int.toNat_natCast] at y0 y1
      have HT := Aside0.mk (take_rd ks i hlt)
      have HM := Aside0.mk (rd_mem ks i hlt)
      obtain ⟨x, hx⟩ : ∃ x, rd_T76 ks i = x := ⟨_, rfl⟩
      rw [hx] at HT HM y0 y1
      clear hx
      have HLT := Aside0.mk hlt
      obtain ⟨xs, hxs⟩ : ∃ xs, (ks.take i).map dec = xs := ⟨_, rfl⟩
      rw [hxs] at HR
      have HXL : Aside0 ((xs.length + 1) * 24 ≤ 140737488355328) := ⟨by rw [← hxs, List.length_map, List.length_take]; have := HL.out; omega⟩
      have HXS := Aside0.mk hxs
      clear hxs
      obtain ⟨B3, c3, rfl⟩ := Kd.R_slice HR.out
      go_wp2_with (first
        | (go_at_call 9; refine (HD.out _ HM.out _ (by repeat (first | exact HB.out | apply below_alloc | apply pw_below_drewN | apply below_drew1))).mono ?_; rintro e w1 ⟨v1, er, rfl, hr1, hb1⟩; have HOK := Aside0.mk (rows_ok HR.out hr1); obtain ⟨B4, c4, rfl⟩ := Kd.R_slice hr1; have HR1 := Aside0.mk (Kd.M_row (d := k53) (e := 53) (Kd.R_lower (Kd.R_bound hr1) (below_size (by repeat (first | exact HB.out | apply below_alloc | apply pw_below_drewN | apply below_drew1))))); have HRW := Aside0.mk (Kd.R_below (Kd.R_alloc HR.out _) hb1); have HB1 := Aside0.mk (below_step (by repeat (first | exact HB.out | apply below_alloc | apply pw_below_drewN | apply below_drew1)) hb1); clear hr1 hb1)
        | ((with_reducible refine gate_builtin (b := .append) (xs := #[.tmp 25, .tmp 27]) rfl ?_); at_builtin; refine Kd.R_append kS (W := w1) (w0 := W) W.heap.size rfl (.tmp 25) (.tmp 27) 54 22 (.slice none 0 0) 24 rfl Tryd.underlying54 info54 rfl (by decide) (by omega) _ xs (dec x) [.slice B4 (dec x).length c4] (fun _ => True) _ rfl rfl HR1.out HOK.out (fun _ _ => trivial) HRW.out HB1.out (below_size HB1.out) HXL.out ?_; intro v5 w2 ho2 hb2 hg2 hat2; have HO2 := Aside0.mk ho2; have HB2 := Aside0.mk hb2; clear ho2 hb2 hg2 hat2))
      go_roundg k1
      case measure => omega
      case rel => exact ⟨i + 1, by rw [wrap_nat (by have := HL.out; omega)], ⟨by have := HK.out; omega⟩, ⟨by omega⟩, ⟨by rw [HT.out, List.map_append, HXS.out]; exact HO2.out⟩, ⟨HB2.out⟩⟩
    · have hie : i = ks.length := by have := HI.out; omega
      subst hie
      have hjd : decide ((ks.length : Int) < (ks.length : Int)) = false := decide_eq_false (by omega)
      rw [List.take_length] at HR
      go_wp2_with fail
      go_ret
      exact ⟨_, rfl, HR.out, HB.out⟩
end Go.Proofs.YtiabggpijomjmaaDoor
namespace Go.Proofs.YtiabggpijomjmaaDoor
open Go.RowKit Print Go.Proofs.YtiabggpijomjmaaDoorW.PrintWords Go.Proofs.YtiabggpijomjmaaDoorW.PrintLast Go.Proofs.YtiabggpijomjmaaDoorW.PrintMore
open Go.Maps (Keyed IsMap has)
set_option linter.unusedVariables false
theorem geqA76 (d : Nat) (w : World) (x0 y0 : ByteArray) (x1 y1 : Int) :
    (Op.equalIn (d + 2) 76 (.agg #[.string x0, .int .i64 x1]) (.agg #[.string y0, .int .i64 y1])).run Tryd.prog w = .ok (x0.toList == y0.toList && (x1 == y1)) w := by
  refine eqA_of Tryd.underlying76 (by kernel_rfl) ?_
  refine eqf_cons (by rfl) (by go_simp; rfl) (by go_simp; rfl) (by go_simp) ?_
  exact eqf_last (by rfl) (by go_simp; rfl) (by go_simp; rfl) (by go_simp)
attribute [local go_sem high] geqA76
set_option maxHeartbeats 2000000 in
set_option maxRecDepth 100000 in
theorem add_bad {g : Nat} {p : S76} {er : Int} (A : Option Addr) (m c : Nat) (x : Int) (W : World) (he : er ≠ 0) (hof : OfK W (.slice A m c) p er) :
    Calls Tryd.prog 14 #[.pointer (some ⟨g, 0, none⟩), .slice A m c, .int .i64 x] W fun e w' => e = .returned (.tuple #[.int .i64 0, .int .i64 er]) ∧ Below W.heap.size W w' := by
  have hu76 := Tryd.underlying76
  have HO := Aside0.mk hof
  have he1 : (er == 0) = false := beq_eq_false_iff_ne.2 he
  have he2 : (er = 0) = False := eq_false he
  clear hof he
  go_enter Tryd.func14, Tryd.ntmps14
  go_wp2_with (first
    | (go_at_call 30; refine (HO.out _ (by repeat (first | exact Below.refl _ _ | apply below_alloc | apply pw_below_drewN | apply below_drew1))).mono ?_; rintro e w1 ⟨rfl, hb⟩; have HW1 := Aside0.mk hb; clear hb))
  go_ret2
  exact ⟨rfl, below_alloc HW1.out _⟩
set_option maxHeartbeats 2000000 in
set_option maxRecDepth 100000 in
theorem remove_bad {g : Nat} {p : S76} {er : Int} (A : Option Addr) (m c : Nat) (W : World) (he : er ≠ 0) (hof : OfK W (.slice A m c) p er) :
    Calls Tryd.prog 16 #[.pointer (some ⟨g, 0, none⟩), .slice A m c] W fun e w' => e = .returned (.bool false) ∧ Below W.heap.size W w' := by
  have hu76 := Tryd.underlying76
  have HO := Aside0.mk hof
  have he1 : (er == 0) = false := beq_eq_false_iff_ne.2 he
  have he2 : (er = 0) = False := eq_false he
  clear hof he
  go_enter Tryd.func16, Tryd.ntmps16
  go_wp2_with (first
    | (go_at_call 30; refine (HO.out _ (by repeat (first | exact Below.refl _ _ | apply below_alloc | apply pw_below_drewN | apply below_drew1))).mono ?_; rintro e w1 ⟨rfl, hb⟩; have HW1 := Aside0.mk hb; clear hb))
  go_ret
  exact ⟨rfl, below_alloc HW1.out _⟩
theorem blk_kept' {w w' : World} {k : Nat} {o : Obj} (h : w.heap[k]? = some o) (hb : Below w.heap.size w w') : w'.heap[k]? = some o := (hb.block k (blk_lt h)).trans h
/-- 'delete(m, k)' as one step of a region that draws. -/
theorem step_delete {P : Program} {ops : Array Oper} {o : Oper} {a : Act} {w w' : World} {K : Act → World → Prop} {Q : Exit → Act → World → Prop} {E : Prop} (hw : Region.wanted o (yielded ops a.tmps) = true) (m x : Operand) (t k : TypeId)
    (hop : o.op = Op.call { callee := Callee.builtin Builtin.delete, args := #[m, x], argTypes := #[t, k] }) (hrun : (Builtin.delete_ #[t, k] o.type #[a.eval m, a.eval x]).run P w = .ok (.tuple #[]) w') (hK : K (a.put o.dst (.tuple #[])) w') :
    if Region.wanted o (yielded ops a.tmps) = true then Oper.wp P o a w K Q else E := by
  rw [if_pos hw]
  unfold Oper.wp
  simp [execOp, hop, resolve, invoke, builtin, hrun, Result.andThen]
  exact hK
/-- What stands behind the deletion. -/
structure RemF (W : World) (p : S76) (g b kb : Nat) (okS : Nat → Prop) (v : Value) (nx : Int) (l : Mp) (w3 : World) : Prop where
  at_ : MAt w3 g b v nx
  rows : k76.R 76 w3 0 okS v (l.map (·.1))
  key : w3.heap[kb]? = some (.cells #[.string p.f0, .int .i64 p.f1] 76 (0, 0))
  kept : K3 W w3 (fun k => k = g ∨ k = b ∨ okS k)
theorem k3_turn {wc w3 : World} {b : Nat} (h : wc.drew.mapTurned w3 b) : K3 wc w3 (fun k => k = b) := by
  have hg := h.grown
  exact ((K3.refl wc (fun k => k = b)).drew).then_ (S2 := fun k => k = b) ⟨hg.size, fun i hi hn' => hg.block i hi (fun he => hn' (Option.some.inj he)), hg.os, hg.tape, hg.output⟩ (fun k hk => .inl hk)
theorem rem_facts {W wc w3 : World} {p : S76} {N s : Int} {g b kb xb n : Nat} {okS : Nat → Prop} {v : Value} {nx : Int} {D : DataW Unit} {l : Mp} (h : MB W g b n okS v nx D l) (hm : Mid W p N kb xb s wc) (ht : wc.drew.mapTurned w3 b) : RemF W p g b kb okS v nx l w3 := by
  have k4 := k3_turn ht
  have hB := h.below hm.below
  have b0 := h.map.lt
  have k0 := hm.k0
  exact ⟨hB.at_.kept k4 h.gb, K3.R hB.rows k4 (fun k hk e => h.bS (by have : k = b := e; rwa [this] at hk)), K3.blk hm.key k4 (by show ¬ kb = b; omega), (K3.of_below hm.below _).then_ k4 (fun k e => .inl (.inr (.inl e)))⟩
theorem rem_end {W w3 wr : World} {p : S76} {g b kb n : Nat} {okS : Nat → Prop} {v v9 : Value} {nx : Int} {D : DataW Unit} {l : Mp} (h : MB W g b n okS v nx D l) (hp : Okk p) (hf : RemF W p g b kb okS v nx l w3) (hown : w3.ownsMap Tryd.prog 76 R80 b n (D.del (kl p)))
    (hR : k76.R 76 wr w3.heap.size (fun _ => True) v9 ((drop l p).map (·.1))) (hb : Below w3.heap.size w3 wr) : AddP W g b n okS (drop l p) (wr.setCell ⟨g, 1, none⟩ v9) := by
  have g3 := hf.at_.lt
  have b3 := hown.lt
  have k5 : K3 wr (wr.setCell ⟨g, 1, none⟩ v9) (fun k => k = g) := (K3.refl wr (fun k => k = g)).setCell (p := ⟨g, 1, none⟩) (.inl rfl) _
  have hsz : (wr.setCell ⟨g, 1, none⟩ v9).heap.size = wr.heap.size := by simp [World.setCell]
  refine ⟨fun k => w3.heap.size ≤ k ∧ k < wr.heap.size, v9, nx, D.del (kl p), ⟨(hf.at_.below hb).set_rows v9, ownsMap_kept (ownsMap_below hown hb) k5 (fun e => h.gb e.symm), h.tie.drop hp, ?_, h.gb, fun hk => by have := hk.1; omega, fun hk => by have := hk.1; omega, fun k hk => by rw [hsz]; exact hk.2⟩, ((hf.kept.below hb)).then_ k5 (fun k e => .inl (.inl e)), fun k hk => .inr (Nat.le_trans hf.kept.1 hk.1)⟩
  exact K3.R (Kd.R_lower (Kd.R_mono (Kd.R_bound hR) (fun k hk => ⟨hk.2.1, hk.2.2.1⟩)) (Nat.zero_le _)) k5 (fun k hk e => by have : k = g := e; have := hk.1; omega)
set_option maxHeartbeats 4000000 in
set_option maxRecDepth 100000 in
theorem remove_any {g b n : Nat} {okS : Nat → Prop} {v : Value} {nx : Int} {D : DataW Unit} {l : Mp} {p : S76} (A : Option Addr) (m c : Nat) (W : World) (h : MB W g b n okS v nx D l) (hp : Okk p) (hl : l.length ≤ 1099511627776) (hof : OfK W (.slice A m c) p 0) :
    Calls Tryd.prog 16 #[.pointer (some ⟨g, 0, none⟩), .slice A m c] W fun e w' => (look l p = none → e = .returned (.bool false) ∧ Below W.heap.size W w') ∧ (look l p ≠ none → e = .returned (.bool true) ∧ AddP W g b n okS (drop l p) w') := by
  have hu76 := Tryd.underlying76
  have hu80 := Tryd.underlying80
  have hu74 := Tryd.underlying74
  obtain ⟨A9, c9, rfl⟩ := Kd.R_slice h.rows
  have HB := Aside0.mk h
  have HP := Aside0.mk hp
  have HO := Aside0.mk hof
  have HL := Aside0.mk hl
  clear h hp hof hl
  go_enter Tryd.func16, Tryd.ntmps16
  go_upto_region 6 with (first
    | (go_at_call 30; refine (HO.out _ (by repeat (first | exact Below.refl _ _ | apply below_alloc | apply pw_below_drewN | apply below_drew1))).mono ?_; rintro e w1 ⟨rfl, hb⟩; have HW1 := Aside0.mk hb; clear hb))
  have hb2 := below_alloc HW1.out (.cells #[.string p.f0, .int .i64 p.f1] 76)
  obtain ⟨s1, e1⟩ := look_run (ownsMap_below HB.out.map (below_drew1 hb2)) HB.out.tie HP.out
  obtain ⟨s2, e2⟩ := look_run (ownsMap_below HB.out.map (below_drew1 (below_alloc hb2 (.cells #[.int .i64 0, .int .i64 0] 80)))) HB.out.tie HP.out
  have HB2 := Aside0.mk hb2
  have q0 : (w1.alloc (.cells #[.string p.f0, .int .i64 p.f1] 76)).cell? ⟨g, 0, none⟩ = some (.map (some b)) := (HB.out.below hb2).at_.cells.1
  have hkey : (w1.alloc (.cells #[.string p.f0, .int .i64 p.f1] 76)).heap[w1.heap.size]? = some (.cells #[.string p.f0, .int .i64 p.f1] 76 (0, 0)) := heap_alloc_new _ _
  have q1 : (w1.alloc (.cells #[.string p.f0, .int .i64 p.f1] 76)).cell? ⟨w1.heap.size, 0, none⟩ = some (.string p.f0) := by go_simp
  have q2 : (w1.alloc (.cells #[.string p.f0, .int .i64 p.f1] 76)).cell? ⟨w1.heap.size, 1, none⟩ = some (.int .i64 p.f1) := by go_simp
  have HK := Aside0.mk (And.intro HW1.out.size hkey)
  clear hb2 hkey
  generalize w1.alloc (.cells #[.string p.f0, .int .i64 p.f1] 76) = W2 at *
  generalize w1.heap.size = kb at *
  obtain ⟨N, hN⟩ : ∃ N, (look l p).getD 0 = N := ⟨_, rfl⟩
  obtain ⟨t, ht⟩ : ∃ t, (look l p).isSome = t := ⟨_, rfl⟩
  rw [hN, ht] at e1 e2
  have HN := Aside0.mk hN
  have HT := Aside0.mk ht
  clear hN ht
  go_cut [8] (fun v8 wx => v8 = .bool t ∧ ∃ s xb, Aside0 (Mid W p N kb xb s wx))
  case first =>
    go_region_held3 (fun w' => w'.cell? ⟨g, 0, none⟩ = some (.map (some b)) ∧ w'.cell? ⟨kb, 0, none⟩ = some (.string p.f0) ∧ w'.cell? ⟨kb, 1, none⟩ = some (.int .i64 p.f1)) (first | go_keep) (first | fail)
    all_goals (go_wp2_with fail)
    all_goals go_meet
    case rel => exact ⟨rfl, _, _, ⟨⟨below_drew1 (below_alloc HB2.out _), HK.out.1, blk_lt HK.out.2, heap_alloc_old' HK.out.2, heap_alloc_new _ _⟩⟩⟩
    case rel => exact ⟨rfl, _, _, ⟨⟨below_drew1 (below_alloc HB2.out _), HK.out.1, blk_lt HK.out.2, heap_alloc_old' HK.out.2, heap_alloc_new _ _⟩⟩⟩
  case rest =>
    clear e1 e2 q0 q1 q2
    obtain ⟨rfl, s, xb, HM⟩ := hcut
    cases t with
    | false =>
      go_wp2_with fail
      go_ret
      have hn : look l p = none := by
        have ht := HT.out
        cases e : look l p with
        | none => rfl
        | some x => rw [e] at ht; cases ht
      exact ⟨fun _ => ⟨rfl, HM.out.below⟩, fun h => absurd hn h⟩
    | true =>
      have k0 : wc.cell? ⟨kb, 0, none⟩ = some (.string p.f0) := (blk_cell HM.out.key 0).trans rfl
      have k1 : wc.cell? ⟨kb, 1, none⟩ = some (.int .i64 p.f1) := (blk_cell HM.out.key 1).trans rfl
      obtain ⟨c0, c1, c2⟩ := (HB.out.below HM.out.below).at_.cells
      obtain ⟨w3, hrun, hown, hturn⟩ := (ownsMap_below HB.out.map (below_drew1 HM.out.below)).drop K76 Tryd.underlying71 (keyOf76 p HP.out) 0
      have HRUN := Aside0.mk hrun
      have HF := Aside0.mk (rem_facts HB.out HM.out hturn)
      have HOWN := Aside0.mk (And.intro hown hturn)
      clear hrun hown hturn
      go_upto_region 9 with fail
      go_cut [] (fun wx => wx = w3)
      case first =>
        go_region_law (first | (refine step_delete rfl (.tmp 35) (.tmp 36) 71 76 rfl HRUN.out ?_))
        all_goals go_wp2_with fail
        all_goals go_meet
        all_goals rfl
      case rest =>
        subst hcut
        clear HM k0 k1 c0 c1 c2 HRUN
        obtain ⟨f0, f1, f2⟩ := HF.out.at_.cells
        go_wp2_with fail
        go_loopg [9, 42] (l.length + 1) (fun kq v9 v42 w' => ∃ i : Nat, v42 = .int .i64 i ∧ Aside0 (kq + i = l.length + 1) ∧ Aside0 (i ≤ l.length) ∧ Aside0 (k76.R 76 w' wc.heap.size (fun _ => True) v9 (((l.map (·.1)).take i).filter fun e => !eq76 e p)) ∧ Aside0 (Below wc.heap.size wc w'))
        case atStart => exact ⟨0, by simp, ⟨by omega⟩, ⟨Nat.zero_le _⟩, ⟨Kd.R_nil _ _ _ _ _⟩, ⟨Below.refl _ _⟩⟩
        case round =>
          obtain ⟨i, rfl, HKQ, HI, HR, HBW⟩ := hrel
          by_cases hlt : i < l.length
          · obtain ⟨k1, rfl⟩ : ∃ k1, gk = k1 + 1 := ⟨gk - 1, by have := HKQ.out; omega⟩
            have hlt' : i < (l.map (·.1)).length := by rw [List.length_map]; exact hlt
            have hj0 : (0 : Int) ≤ (i : Int) := by omega
            have hj1 : (i : Int) < (l.length : Int) := by omega
            have hjd : decide ((i : Int) < (l.length : Int)) = true := decide_eq_true hj1
            obtain ⟨ad, rfl, y0, y1⟩ := at_T76 (Kd.C_below ((Kd.R_reads' HF.out.rows).2.2) HBW.out) (i : Int) hj0 (by rw [List.length_map]; exact hj1)
            rw [Int.toNat_natCast] at y0 y1
            have hkb := blk_kept' HF.out.key HBW.out
            have z0 : wr.cell? ⟨kb, 0, none⟩ = some (.string p.f0) := (blk_cell hkb 0).trans rfl
            have z1 : wr.cell? ⟨kb, 1, none⟩ = some (.int .i64 p.f1) := (blk_cell hkb 1).trans rfl
            have hal : ∀ o2 : Obj, (wr.alloc o2).cell? ⟨kb, 0, none⟩ = some (.string p.f0) ∧ (wr.alloc o2).cell? ⟨kb, 1, none⟩ = some (.int .i64 p.f1) := fun o2 => ⟨(blk_cell (heap_alloc_old' hkb) 0).trans rfl, (blk_cell (heap_alloc_old' hkb) 1).trans rfl⟩
            have hts := take_rd (l.map (·.1)) i hlt'
            obtain ⟨x, hx⟩ : ∃ x, rd_T76 (l.map (·.1)) i = x := ⟨_, rfl⟩
            rw [hx] at hts y0 y1
            obtain ⟨xs, hxs⟩ : ∃ xs, ((l.map (·.1)).take i).filter (fun e => !eq76 e p) = xs := ⟨_, rfl⟩
            have hft : ((l.map (·.1)).take (i + 1)).filter (fun e => !eq76 e p) = xs ++ (if eq76 x p = true then [] else [x]) := by
              rw [hts, List.filter_append, hxs]
              cases h : eq76 x p <;> simp [h]
            have hxl : (xs.length + 1) * 24 ≤ 140737488355328 := by
              have h1 := List.length_filter_le (fun e => !eq76 e p) ((l.map (·.1)).take i)
              rw [hxs, List.length_take, List.length_map] at h1
              have := HL.out
              omega
            rw [hxs] at HR
            obtain ⟨B3, c3, rfl⟩ := Kd.R_slice HR.out
            have HFT := Aside0.mk hft
            have HXL := Aside0.mk hxl
            have HWN := Aside0.mk (show wrap64 ((i : Int) + 1) = ((i + 1 : Nat) : Int) from wrap_nat (by have := HL.out; omega))
            obtain ⟨z2, z3⟩ := hal (.cells #[.string x.f0, .int .i64 x.f1] 76)
            clear hx hts hxs hft hxl hkb hal
            by_cases he : eq76 x p = true
            · have hq : (x.f0.toList == p.f0.toList && (x.f1 == p.f1)) = true := he
              have HE := Aside0.mk he
              clear he
              go_wp2_with fail
              go_roundg k1
              case measure => omega
              case rel => exact ⟨i + 1, by rw [HWN.out], ⟨by have := HKQ.out; omega⟩, ⟨by omega⟩, ⟨by rw [HFT.out, if_pos HE.out, List.append_nil]; exact Kd.R_alloc HR.out _⟩, ⟨below_alloc HBW.out _⟩⟩
            · have hq : (x.f0.toList == p.f0.toList && (x.f1 == p.f1)) = false := by simpa [eq76] using he
              have HE := Aside0.mk he
              clear he
              have HB1 := Aside0.mk (below_alloc HBW.out (.cells #[.string x.f0, .int .i64 x.f1] 76))
              go_wp2_with (first
                | ((with_reducible refine gate_builtin (b := .append) (xs := #[.tmp 49, .tmp 51]) rfl ?_); at_builtin; refine Kd.R_append k76 (W := wr.alloc (.cells #[.string x.f0, .int .i64 x.f1] 76)) (w0 := wc) wc.heap.size rfl (.tmp 49) (.tmp 51) 72 76 (.agg #[.string ⟨#[]⟩, .int .i64 0]) 24 rfl Tryd.underlying72 info76 rfl dec76 dec24 _ xs x [.string x.f0, .int .i64 x.f1] (fun _ => True) (fun _ => False) rfl (by first | (go_simp; done) | (go_simp; rfl)) (k76_mkM _ _ _ x) (fun _ h => False.elim h) (fun _ _ => trivial) (Kd.R_alloc HR.out _) HB1.out (below_size HB1.out) HXL.out ?_; intro v5 w2 ho2 hb2 hg2 hat2; have HO2 := Aside0.mk ho2; have HB2' := Aside0.mk hb2; clear ho2 hb2 hg2 hat2))
              go_roundg k1
              case measure => omega
              case rel => exact ⟨i + 1, by rw [HWN.out], ⟨by have := HKQ.out; omega⟩, ⟨by omega⟩, ⟨by rw [HFT.out, if_neg HE.out]; exact HO2.out⟩, ⟨HB2'.out⟩⟩
          · have hie : i = l.length := by have := HI.out; omega
            have hjd : decide ((i : Int) < (l.length : Int)) = false := decide_eq_false (by omega)
            have hR := HR.out
            rw [List.take_of_length_le (by rw [List.length_map]; omega), ← drop_rows] at hR
            obtain ⟨B3, c3, rfl⟩ := Kd.R_slice hR
            rw [List.length_map] at hR ⊢
            have HRR := Aside0.mk hR
            obtain ⟨d0, d1, d2⟩ := (HF.out.at_.below HBW.out).cells
            have q1 := (HF.out.at_.below HBW.out).frozen 1
            clear hR HR
            go_wp2_with fail
            go_ret
            have hn : look l p ≠ none := fun e => by have ht := HT.out; rw [e] at ht; cases ht
            exact ⟨fun h => absurd h hn, fun _ => ⟨rfl, rem_end HB.out HP.out HF.out HOWN.out.1 HRR.out HBW.out⟩⟩
end Go.Proofs.YtiabggpijomjmaaDoor
namespace Go.Proofs.YtiabggpijomjmaaDoor
open Go.RowKit Print Go.Proofs.YtiabggpijomjmaaDoorW.PrintWords Go.Proofs.YtiabggpijomjmaaDoorW.PrintLast Go.Proofs.YtiabggpijomjmaaDoorW.PrintMore
open Go.Maps (Keyed IsMap has)
set_option linter.unusedVariables false
variable {w w0 W : World} {L : List Asr}
theorem Sep.out {A : Asr} {l : List Asr} {U : Nat → Prop} (h : Sep w (A :: l) U) : ∃ F, A.P w F ∧ (∀ k, F k → ¬ U k) ∧ Sep w l (fun k => U k ∨ F k) := h
theorem Sep.onto (h : Apart w L) (hW : Below w.heap.size w W) : Apart W L := Sep.below h hW
theorem Sep.mem {A : Asr} : ∀ {l : List Asr} {U : Nat → Prop}, Sep w l U → A ∈ l → ∃ F, A.P w F ∧ ∀ k, F k → ¬ U k
  | [], _, _, hm => by simp at hm
  | B :: l, U, ⟨F, hB, hF, hl⟩, hm => by
    rcases List.mem_cons.1 hm with rfl | hm
    · exact ⟨F, hB, hF⟩
    · obtain ⟨G, hA, hG⟩ := Sep.mem hl hm
      exact ⟨G, hA, fun k hk hu => hG k hk (.inl hu)⟩
/-- What is elder than w0, the tables among it. -/
theorem laid_of (h : Apart W L) (hm : Old w0 ∈ L) (hld : LaidW w0) : LaidW W := by
  obtain ⟨F, hO, _⟩ := Sep.mem h hm
  exact hld.below hO.2
/-- A row. -/
def Rv (v : Value) (l : List S53) : Asr where
  P w F := k53.R 53 w 0 F v l ∧ ∀ k, F k → k < w.heap.size
  lt h := h.2
  keep h hk hd := ⟨K3.R h.1 hk hd, fun k hf => Nat.lt_of_lt_of_le (h.2 k hf) hk.1⟩
/-- Rows. -/
def Rw (v : Value) (l : List (List S53)) : Asr where
  P w F := kS.R 22 w 0 F v l ∧ ∀ k, F k → k < w.heap.size
  lt h := h.2
  keep h hk hd := ⟨K3.R h.1 hk hd, fun k hf => Nat.lt_of_lt_of_le (h.2 k hf) hk.1⟩
theorem ofK {k : Nat} {A : Option Addr} {c : Nat} {xs : List S53} {p : S76} {er : Int} (hld : LaidW W) (hC : k53.C W A xs.length xs) (hc : xs.length ≤ c) (hf : key_of.f k xs = some (p.f0, p.f1, er)) : OfK W (.slice A xs.length c) p er :=
  fun w1 hb => key_of.calls k A c xs p.f0 p.f1 er w1 (hld.below hb) (Kd.C_below hC hb) hc hf
theorem ofK_row {k : Nat} {A : Option Addr} {m c : Nat} {xs : List S53} {p : S76} {er : Int} (h : Apart W L) (hm : Rv (.slice A m c) xs ∈ L) (hld : LaidW W) (hf : key_of.f k xs = some (p.f0, p.f1, er)) : OfK W (.slice A m c) p er := by
  obtain ⟨F, hR, _⟩ := Sep.mem h hm
  obtain ⟨rfl, hc, hC⟩ := Kd.R_reads' hR.1
  exact ofK hld hC hc hf
theorem mm_step {F okS : Nat → Prop} {g b n : Nat} {l' : Mp} {w' : World} (hF : ∀ k, F k ↔ (k = g ∨ k = b ∨ okS k)) (hl : Sep W L F) (ha : AddP W g b n okS l' w') : Apart w' (Mm g n l' :: L) := by
  obtain ⟨okS', v', nx', D', hB', hK, hS'⟩ := ha
  refine ⟨fun k => k = g ∨ k = b ∨ okS' k, ⟨b, okS', v', nx', D', hB', fun _ => Iff.rfl⟩, fun _ _ h => h, hl.frame hK (fun k hk => (hF k).2 hk) (fun k hu => ?_)⟩
  rcases hu with h | h | h | h
  · exact h.elim
  · exact .inl ((hF k).2 (.inl h))
  · exact .inl ((hF k).2 (.inr (.inl h)))
  · exact (hS' k h).imp (fun h => (hF k).2 (.inr (.inr h))) id
/-! #### the methods, over what lies apart -/
theorem new_sep (h : Apart w L) (hW : Below w.heap.size w W) : Calls Tryd.prog 13 #[] W fun e w' => ∃ g, e = .returned (.pointer (some ⟨g, 0, none⟩)) ∧ Apart w' (Mm g 0 [] :: L) :=
  (new_any W).mono fun e w' ⟨g, he, hb, hg, hB, hne⟩ => ⟨g, he, Sep.new (F := fun k => k = g ∨ k = W.heap.size ∨ False) (h.onto hW) hb ⟨_, fun _ => False, _, _, _, hB, fun _ => Iff.rfl⟩ (fun k hk => hk.elim (fun h => by rw [h]; exact hg) (fun h => h.elim (fun h => Nat.le_of_eq h.symm) False.elim))⟩
theorem add_sep {g n : Nat} {l : Mp} {p : S76} {x S : Int} {v : Value} {A : Option Addr} {m c : Nat} (hv : v = .slice A m c) (h : Apart w (Mm g n l :: L)) (hW : Below w.heap.size w W) (hof : OfK W v p 0) (hp : Okk p) (hl : l.length ≤ 1099511627776) (hn : n < maxLen)
    (hS : wrap64 ((look l p).getD 0 + x) = S) (ho : over ((look l p).getD 0) x S = false) :
    Calls Tryd.prog 14 #[.pointer (some ⟨g, 0, none⟩), v, .int .i64 x] W fun e w' => e = .returned (.tuple #[.int .i64 S, .int .i64 0]) ∧ Apart w' (Mm g (n + 1) (put l p S) :: L) := by
  subst hv
  obtain ⟨F, ⟨b, okS, v', nx, D, hB, hF⟩, _, hl'⟩ := h.onto hW
  refine (add_any A m c x W hB hp hl hn hof).mono fun e w' ⟨_, h2⟩ => ?_
  rw [hS] at h2
  obtain ⟨he, ha⟩ := h2 (by rw [ho]; simp)
  exact ⟨he, mm_step hF (hl'.mono (fun k hk => .inr hk)) ha⟩
theorem add_over_sep {g n : Nat} {l : Mp} {p : S76} {x : Int} {v : Value} {A : Option Addr} {m c : Nat} (hv : v = .slice A m c) (h : Apart w (Mm g n l :: L)) (hW : Below w.heap.size w W) (hof : OfK W v p 0) (hp : Okk p) (hl : l.length ≤ 1099511627776) (hn : n < maxLen)
    (ho : over ((look l p).getD 0) x (wrap64 ((look l p).getD 0 + x)) = true) :
    Calls Tryd.prog 14 #[.pointer (some ⟨g, 0, none⟩), v, .int .i64 x] W fun e w' => e = .returned (.tuple #[.int .i64 0, .int .i64 20]) ∧ Apart w' (Mm g n l :: L) := by
  subst hv
  have hh := h.onto hW
  obtain ⟨F, ⟨b, okS, v', nx, D, hB, hF⟩, _, hl'⟩ := h.onto hW
  refine (add_any A m c x W hB hp hl hn hof).mono fun e w' ⟨h1, _⟩ => ?_
  obtain ⟨he, hb⟩ := h1 ho
  exact ⟨he, hh.onto hb⟩
theorem get_sep {g n : Nat} {l : Mp} {p : S76} {v : Value} {A : Option Addr} {m c : Nat} (hv : v = .slice A m c) (h : Apart w (Mm g n l :: L)) (hW : Below w.heap.size w W) (hof : OfK W v p 0) (hp : Okk p) :
    Calls Tryd.prog 18 #[.pointer (some ⟨g, 0, none⟩), v] W fun e w' => e = .returned (.tuple #[.int .i64 ((look l p).getD 0), .bool (look l p).isSome]) ∧ Apart w' (Mm g n l :: L) := by
  subst hv
  have hh := h.onto hW
  obtain ⟨F, ⟨b, okS, v', nx, D, hB, hF⟩, _, _⟩ := h.onto hW
  exact (get_any A m c W hB hp hof).mono fun e w' ⟨he, hb⟩ => ⟨he, hh.onto hb⟩
theorem drop_none : ∀ (l : Mp) (p : S76), look l p = none → drop l p = l
  | [], _, _ => rfl
  | e :: l, p, h => by
    by_cases c : eq76 e.1 p = true
    · simp [look, c] at h
    · have ih := drop_none l p (by simpa [look, c] using h)
      unfold drop at ih ⊢
      simp [c, ih]
theorem remove_sep {g n : Nat} {l : Mp} {p : S76} {v : Value} {A : Option Addr} {m c : Nat} (hv : v = .slice A m c) (h : Apart w (Mm g n l :: L)) (hW : Below w.heap.size w W) (hof : OfK W v p 0) (hp : Okk p) (hl : l.length ≤ 1099511627776) :
    Calls Tryd.prog 16 #[.pointer (some ⟨g, 0, none⟩), v] W fun e w' => e = .returned (.bool (look l p).isSome) ∧ Apart w' (Mm g n (drop l p) :: L) := by
  subst hv
  have hh := h.onto hW
  obtain ⟨F, ⟨b, okS, v', nx, D, hB, hF⟩, _, hl'⟩ := h.onto hW
  refine (remove_any A m c W hB hp hl hof).mono fun e w' ⟨h1, h2⟩ => ?_
  cases hn : look l p with
  | none =>
    obtain ⟨he, hb⟩ := h1 hn
    rw [drop_none l p hn]
    exact ⟨he, hh.onto hb⟩
  | some y =>
    obtain ⟨he, ha⟩ := h2 (by rw [hn]; simp)
    exact ⟨he, mm_step hF (hl'.mono (fun k hk => .inr hk)) ha⟩
theorem len_sep {g n : Nat} {l : Mp} (h : Apart w (Mm g n l :: L)) (hW : Below w.heap.size w W) : Calls Tryd.prog 21 #[.pointer (some ⟨g, 0, none⟩)] W fun e w' => e = .returned (.int .i64 l.length) ∧ Apart w' (Mm g n l :: L) := by
  have hh := h.onto hW
  obtain ⟨F, ⟨b, okS, v', nx, D, hB, hF⟩, _, _⟩ := h.onto hW
  exact (len_any W hB).mono fun e w' ⟨he, hb⟩ => ⟨he, hh.onto hb⟩
theorem rows_sep {g n : Nat} {l : Mp} (dec : S76 → List S53) (h : Apart w (Mm g n l :: L)) (hW : Below w.heap.size w W) (hl : l.length ≤ 1099511627776) (hdec : DecK W dec (l.map (·.1))) :
    Calls Tryd.prog 20 #[.pointer (some ⟨g, 0, none⟩)] W fun e w' => ∃ A c, e = .returned (.slice A l.length c) ∧ Apart w' (Rw (.slice A l.length c) ((l.map (·.1)).map dec) :: Mm g n l :: L) := by
  have hh := h.onto hW
  obtain ⟨F, ⟨b, okS, v', nx, D, hB, hF⟩, _, _⟩ := h.onto hW
  refine (rows_any dec W hB hl hdec).mono fun e w' ⟨v, he, hR, hb⟩ => ?_
  obtain ⟨A, c, rfl⟩ := Kd.R_slice hR
  rw [List.length_map, List.length_map] at he hR
  exact ⟨A, c, he, Sep.new hh hb ⟨Kd.R_lower (Kd.R_bound hR) (Nat.zero_le _), fun k hk => hk.2.2.1⟩ (fun k hk => hk.2.1)⟩
theorem decK {k : Nat} {dec : S76 → List S53} {l : List S76} (hld : LaidW W) (h : ∀ x ∈ l, ∃ er, key_Decode.f k x.f0 = some (dec x, er)) : DecK W dec l := fun x hx w1 hb => by
  obtain ⟨er, he⟩ := h x hx
  exact (key_Decode.calls k x.f0 (dec x) er w1 (hld.below hb) he).mono fun e w' ⟨v, h1, h2, h3⟩ => ⟨v, er, h1, h2, h3⟩
theorem text_sep (s : ByteArray) (h : Apart w L) (hW : Below w.heap.size w W) : Calls Tryd.prog 29 #[.string s] W fun e w' => ∃ A c, e = .returned (.slice A 1 c) ∧ Apart w' (Rv (.slice A 1 c) [⟨4, 0, s⟩] :: L) :=
  (marqueelaw04_text.calls s _ W rfl).mono fun e w' ⟨v, he, hR, hb⟩ => by
    obtain ⟨A, c, rfl⟩ := Kd.R_slice hR
    exact ⟨A, c, he, Sep.new (h.onto hW) hb ⟨Kd.R_lower (Kd.R_bound hR) (Nat.zero_le _), fun k hk => hk.2.2.1⟩ (fun k hk => hk.2.1)⟩
end Go.Proofs.YtiabggpijomjmaaDoor
namespace Go.Proofs.YtiabggpijomjmaaDoor
open Go.RowKit Print Go.Proofs.YtiabggpijomjmaaDoorW.PrintWords Go.Proofs.YtiabggpijomjmaaDoorW.PrintLast Go.Proofs.YtiabggpijomjmaaDoorW.PrintMore
set_option linter.unusedVariables false
variable {w w0 W : World} {L : List Asr}
abbrev bA : ByteArray := ⟨#[97]⟩
abbrev bB : ByteArray := ⟨#[98]⟩
def kA : S76 := ⟨⟨#[4, 1, 0, 97]⟩, 1⟩
def kB : S76 := ⟨⟨#[4, 1, 0, 98]⟩, 1⟩
def tA : List S53 := [⟨4, 0, bA⟩]
def tB : List S53 := [⟨4, 0, bB⟩]
theorem ofA : key_of.f 20 [⟨4, 0, bA⟩] = some (kA.f0, kA.f1, 0) := by kernel_rfl
theorem ofB : key_of.f 20 [⟨4, 0, bB⟩] = some (kB.f0, kB.f1, 0) := by kernel_rfl
theorem decA : key_Decode.f 20 kA.f0 = some (tA, 0) := by kernel_rfl
theorem decB : key_Decode.f 20 kB.f0 = some (tB, 0) := by kernel_rfl
theorem encL : key_Encode.f 40 [⟨0, 0, ⟨#[]⟩⟩, ⟨1, 1, ⟨#[]⟩⟩, ⟨2, 1, ⟨#[]⟩⟩, ⟨4, 0, ⟨#[97, 98]⟩⟩] = some (⟨#[0, 1, 1, 2, 1, 0, 0, 0, 0, 0, 0, 0, 4, 2, 0, 97, 98]⟩, 0) := by kernel_rfl
theorem decL : key_Decode.f 20 ⟨#[1, 2]⟩ = some ([], 31) := by kernel_rfl
theorem sameAB : marqueelaw04_same.f 20 [tA, tB] [tA, tB] = some true := by kernel_rfl
theorem sameBA : marqueelaw04_same.f 20 [tB, tA] [tB, tA] = some true := by kernel_rfl
theorem okA : Okk kA := ⟨by decide, by decide⟩
theorem okB : Okk kB := ⟨by decide, by decide⟩
theorem enc_lit (h : Apart w L) (hm : Old w0 ∈ L) (hld : LaidW w0) :
    Calls Tryd.prog 7 #[.slice (some ⟨w.heap.size, 0, none⟩) 4 4] (w.alloc (.cells #[.int .i64 0, .int .i64 0, .string ⟨#[]⟩, .int .i64 1, .int .i64 1, .string ⟨#[]⟩, .int .i64 2, .int .i64 1, .string ⟨#[]⟩, .int .i64 4, .int .i64 0, .string ⟨#[97, 98]⟩] 53))
      fun e w' => e = .returned (.tuple #[.string ⟨#[0, 1, 1, 2, 1, 0, 0, 0, 0, 0, 0, 0, 4, 2, 0, 97, 98]⟩, .int .i64 0]) ∧ Apart w' L := by
  have al := below_alloc (Below.refl w.heap.size w) (.cells #[.int .i64 0, .int .i64 0, .string ⟨#[]⟩, .int .i64 1, .int .i64 1, .string ⟨#[]⟩, .int .i64 2, .int .i64 1, .string ⟨#[]⟩, .int .i64 4, .int .i64 0, .string ⟨#[97, 98]⟩] 53)
  have h2 := h.onto al
  refine (key_Encode.calls 40 (some ⟨w.heap.size, 0, none⟩) 4 [⟨0, 0, ⟨#[]⟩⟩, ⟨1, 1, ⟨#[]⟩⟩, ⟨2, 1, ⟨#[]⟩⟩, ⟨4, 0, ⟨#[97, 98]⟩⟩] _ _ _ (laid_of h2 hm hld) ⟨rfl, by decide, fun _ => ⟨_, rfl, fun j p hj => ?_⟩⟩ (Nat.le_refl _) encL).mono fun e w' ⟨he, hb⟩ => ⟨he, h2.onto hb⟩
  have hb := heap_alloc_new w (.cells #[.int .i64 0, .int .i64 0, .string ⟨#[]⟩, .int .i64 1, .int .i64 1, .string ⟨#[]⟩, .int .i64 2, .int .i64 1, .string ⟨#[]⟩, .int .i64 4, .int .i64 0, .string ⟨#[97, 98]⟩] 53)
  refine ⟨_, rfl, k53_mk _ p, fun i u hu => ?_⟩
  have sz : k53.sz = 3 := rfl
  rw [add_plain, sz]
  refine (blk_cell hb (j * 3 + i)).trans ?_
  rcases i with _ | _ | _ | i
  all_goals try (simp at hu; done)
  all_goals
    rcases j with _ | _ | _ | _ | j
    all_goals try (simp at hj; done)
    all_goals
      simp only [List.getElem?_cons_zero, List.getElem?_cons_succ, Option.some.injEq] at hj
      subst hj
      simpa using hu
theorem same_lit (A : Option Addr) (c : Nat) (xs ys : List S53) (v1 v2 : Value) (h : Apart w (Rv v2 ys :: Rv v1 xs :: Rw (.slice A 2 c) [xs, ys] :: L)) (hf : marqueelaw04_same.f 20 [xs, ys] [xs, ys] = some true) :
    Calls Tryd.prog 22 #[.slice A 2 c, .slice (some ⟨w.heap.size, 0, none⟩) 2 2] (w.alloc (.cells #[v1, v2] 22)) fun e w' => e = .returned (.bool true) ∧ Apart w' L := by
  have al := below_alloc (Below.refl w.heap.size w) (.cells #[v1, v2] 22)
  have h2 := h.onto al
  obtain ⟨F2, hy, d2, q2⟩ := Sep.out h2
  obtain ⟨F1, hx, d1, q1⟩ := Sep.out q2
  obtain ⟨F0, hr, d0, q0⟩ := Sep.out q1
  obtain ⟨_, hc, hC⟩ := Kd.R_reads' hr.1
  have hb := heap_alloc_new w (.cells #[v1, v2] 22)
  refine (marqueelaw04_same.calls 20 A c [xs, ys] (some ⟨w.heap.size, 0, none⟩) 2 [xs, ys] true _ hC hc ⟨rfl, by simp, fun _ => ⟨_, rfl, fun j p hj => ?_⟩⟩ (Nat.le_refl _) hf).mono fun e w' ⟨he, hd⟩ => ⟨he, h2.tail.tail.tail.onto hd.below⟩
  have sz : kS.sz = 1 := rfl
  rcases j with _ | _ | j
  · simp only [List.getElem?_cons_zero, Option.some.injEq] at hj
    subst hj
    obtain ⟨A1, c1, rfl, l1, g1⟩ := Kd.R_reads hx.1
    refine ⟨_, rfl, ⟨A1, c1, rfl, l1, g1⟩, fun i u hu => ?_⟩
    rw [add_plain, sz]
    refine (blk_cell hb (0 * 1 + i)).trans ?_
    rcases i with _ | i
    · simpa using hu
    · simp at hu
  · simp only [Nat.zero_add, List.getElem?_cons_succ, List.getElem?_cons_zero, Option.some.injEq] at hj
    subst hj
    obtain ⟨A1, c1, rfl, l1, g1⟩ := Kd.R_reads hy.1
    refine ⟨_, rfl, ⟨A1, c1, rfl, l1, g1⟩, fun i u hu => ?_⟩
    rw [add_plain, sz]
    refine (blk_cell hb ((0 + 1) * 1 + i)).trans ?_
    rcases i with _ | i
    · simpa using hu
    · simp at hu
  · simp at hj
theorem dec_lit (h : Apart w L) (hm : Old w0 ∈ L) (hld : LaidW w0) : Calls Tryd.prog 9 #[.string ⟨#[1, 2]⟩] w fun e w' => ∃ v, e = .returned (.tuple #[v, .int .i64 31]) ∧ Apart w' L :=
  (key_Decode.calls 20 _ _ _ w (laid_of h hm hld) decL).mono fun e w' ⟨v, he, _, hb⟩ => ⟨v, he, h.onto hb⟩
theorem addS {g n : Nat} {l l' : Mp} {p : S76} {x S : Int} {xs : List S53} {A : Option Addr} {c : Nat} (h : Apart w (Rv (.slice A 1 c) xs :: Mm g n l :: L)) (hm : Old w0 ∈ L) (hld : LaidW w0) (hof : key_of.f 20 xs = some (p.f0, p.f1, 0)) (hp : Okk p) (hl : l.length ≤ 4) (hn : n ≤ 9)
    (hS : wrap64 ((look l p).getD 0 + x) = S) (ho : over ((look l p).getD 0) x S = false) (hl' : put l p S = l') :
    Calls Tryd.prog 14 #[.pointer (some ⟨g, 0, none⟩), .slice A 1 c, .int .i64 x] w fun e w' => e = .returned (.tuple #[.int .i64 S, .int .i64 0]) ∧ Apart w' (Mm g (n + 1) l' :: L) := by
  subst hl'
  exact add_sep rfl h.tail (Below.refl _ _) (ofK_row h (by simp) (laid_of h (by simp [hm]) hld) hof) hp (by omega) (by simp only [maxLen]; omega) hS ho
theorem getS {g n : Nat} {l : Mp} {p : S76} {N : Int} {t : Bool} {xs : List S53} {A : Option Addr} {c : Nat} (h : Apart w (Rv (.slice A 1 c) xs :: Mm g n l :: L)) (hm : Old w0 ∈ L) (hld : LaidW w0) (hof : key_of.f 20 xs = some (p.f0, p.f1, 0)) (hp : Okk p) (hN : (look l p).getD 0 = N) (ht : (look l p).isSome = t) :
    Calls Tryd.prog 18 #[.pointer (some ⟨g, 0, none⟩), .slice A 1 c] w fun e w' => e = .returned (.tuple #[.int .i64 N, .bool t]) ∧ Apart w' (Mm g n l :: L) := by
  subst hN ht
  exact get_sep rfl h.tail (Below.refl _ _) (ofK_row h (by simp) (laid_of h (by simp [hm]) hld) hof) hp
theorem removeS {g n : Nat} {l l' : Mp} {p : S76} {t : Bool} {xs : List S53} {A : Option Addr} {c : Nat} (h : Apart w (Rv (.slice A 1 c) xs :: Mm g n l :: L)) (hm : Old w0 ∈ L) (hld : LaidW w0) (hof : key_of.f 20 xs = some (p.f0, p.f1, 0)) (hp : Okk p) (hl : l.length ≤ 4) (ht : (look l p).isSome = t) (hl' : drop l p = l') :
    Calls Tryd.prog 16 #[.pointer (some ⟨g, 0, none⟩), .slice A 1 c] w fun e w' => e = .returned (.bool t) ∧ Apart w' (Mm g n l' :: L) := by
  subst ht hl'
  exact remove_sep rfl h.tail (Below.refl _ _) (ofK_row h (by simp) (laid_of h (by simp [hm]) hld) hof) hp (by omega)
def decT (x : S76) : List S53 := match key_Decode.f 20 x.f0 with | some r => r.1 | none => []
theorem rowsS {g n : Nat} {l : Mp} {xs ys : List S53} (h : Apart w (Mm g n l :: L)) (hm : Old w0 ∈ L) (hld : LaidW w0) (hl : l.length = 2) (hd : ∀ x ∈ l.map (·.1), x = kA ∨ x = kB) (hr : (l.map (·.1)).map decT = [xs, ys]) :
    Calls Tryd.prog 20 #[.pointer (some ⟨g, 0, none⟩)] w fun e w' => ∃ A c, e = .returned (.slice A 2 c) ∧ Apart w' (Rw (.slice A 2 c) [xs, ys] :: Mm g n l :: L) := by
  have := rows_sep decT h (Below.refl _ _) (by omega) (decK (k := 20) (laid_of h (by simp [hm]) hld) (fun x hx => by
    rcases hd x hx with rfl | rfl
    · exact ⟨0, by rw [show decT kA = tA by unfold decT; rw [decA]]; exact decA⟩
    · exact ⟨0, by rw [show decT kB = tB by unfold decT; rw [decB]]; exact decB⟩))
  rw [hr, hl] at this
  exact this
end Go.Proofs.YtiabggpijomjmaaDoor
namespace Go.Proofs.YtiabggpijomjmaaDoor
open Go.RowKit Print Go.Proofs.YtiabggpijomjmaaDoorW.PrintWords Go.Proofs.YtiabggpijomjmaaDoorW.PrintLast Go.Proofs.YtiabggpijomjmaaDoorW.PrintMore
set_option linter.unusedVariables false
set_option maxHeartbeats 20000000 in
set_option maxRecDepth 100000 in
theorem sure_any (w : World) (hld : LaidW w) : Calls Tryd.prog 12 #[] w fun e w' => e = .returned (.bool true) ∧ Below w.heap.size w w' := by
  have hu53 := Tryd.underlying53
  have HS0 := Aside0.mk (Sep.begin w)
  have HLD := Aside0.mk hld
  clear hld
  go_enter Tryd.func12, Tryd.ntmps12
  go_wp2_with (first
    | (go_at_call 7; refine (enc_lit HS0.out (by simp) HLD.out).mono ?_; rintro e w1 ⟨rfl, hq⟩; have HS1 : Aside0 (Apart w1 [Old w]) := ⟨hq⟩; clear hq HS0)
    | (go_at_call 9; refine (dec_lit HS1.out (by simp) HLD.out).mono ?_; rintro e w2 ⟨v2, rfl, hq⟩; have HS2 : Aside0 (Apart w2 [Old w]) := ⟨hq⟩; clear hq HS1)
    | (go_at_call 13; refine (new_sep HS2.out (Below.refl _ _)).mono ?_; rintro e w3 ⟨g, rfl, hq⟩; have HS3 : Aside0 (Apart w3 [Mm g 0 [], Old w]) := ⟨hq⟩; clear hq HS2)
    | (go_at_call 29; refine (text_sep ⟨#[97]⟩ HS3.out (Below.refl _ _)).mono ?_; rintro e w4 ⟨A4, c4, rfl, hq⟩; have HS4 : Aside0 (Apart w4 [Rv (.slice A4 1 c4) [⟨4, 0, ⟨#[97]⟩⟩], Mm g 0 [], Old w]) := ⟨hq⟩; clear hq HS3)
    | (go_at_call 14; refine (addS (p := kA) (S := 2) (l' := [(kA, 2)]) HS4.out (by simp) HLD.out ofA okA (by decide) (by decide) (by kernel_rfl) (by kernel_rfl) (by kernel_rfl)).mono ?_; rintro e w5 ⟨rfl, hq⟩; have HS5 : Aside0 (Apart w5 [Mm g 1 [(kA, 2)], Old w]) := ⟨hq⟩; clear hq HS4)
    | (go_at_call 29; refine (text_sep ⟨#[98]⟩ HS5.out (Below.refl _ _)).mono ?_; rintro e w6 ⟨A6, c6, rfl, hq⟩; have HS6 : Aside0 (Apart w6 [Rv (.slice A6 1 c6) [⟨4, 0, ⟨#[98]⟩⟩], Mm g 1 [(kA, 2)], Old w]) := ⟨hq⟩; clear hq HS5)
    | (go_at_call 14; refine (addS (p := kB) (S := 1) (l' := [(kA, 2), (kB, 1)]) HS6.out (by simp) HLD.out ofB okB (by decide) (by decide) (by kernel_rfl) (by kernel_rfl) (by kernel_rfl)).mono ?_; rintro e w7 ⟨rfl, hq⟩; have HS7 : Aside0 (Apart w7 [Mm g 2 [(kA, 2), (kB, 1)], Old w]) := ⟨hq⟩; clear hq HS6)
    | (go_at_call 29; refine (text_sep ⟨#[97]⟩ HS7.out (Below.refl _ _)).mono ?_; rintro e w8 ⟨A8, c8, rfl, hq⟩; have HS8 : Aside0 (Apart w8 [Rv (.slice A8 1 c8) [⟨4, 0, ⟨#[97]⟩⟩], Mm g 2 [(kA, 2), (kB, 1)], Old w]) := ⟨hq⟩; clear hq HS7)
    | (go_at_call 14; refine (addS (p := kA) (S := 5) (l' := [(kA, 5), (kB, 1)]) HS8.out (by simp) HLD.out ofA okA (by decide) (by decide) (by kernel_rfl) (by kernel_rfl) (by kernel_rfl)).mono ?_; rintro e w9 ⟨rfl, hq⟩; have HS9 : Aside0 (Apart w9 [Mm g 3 [(kA, 5), (kB, 1)], Old w]) := ⟨hq⟩; clear hq HS8)
    | (go_at_call 29; refine (text_sep ⟨#[97]⟩ HS9.out (Below.refl _ _)).mono ?_; rintro e w10 ⟨A10, c10, rfl, hq⟩; have HS10 : Aside0 (Apart w10 [Rv (.slice A10 1 c10) [⟨4, 0, ⟨#[97]⟩⟩], Mm g 3 [(kA, 5), (kB, 1)], Old w]) := ⟨hq⟩; clear hq HS9)
    | (go_at_call 18; refine (getS (p := kA) (N := 5) (t := true) HS10.out (by simp) HLD.out ofA okA (by kernel_rfl) (by kernel_rfl)).mono ?_; rintro e w11 ⟨rfl, hq⟩; have HS11 : Aside0 (Apart w11 [Mm g 3 [(kA, 5), (kB, 1)], Old w]) := ⟨hq⟩; clear hq HS10)
    | (go_at_call 20; refine (rowsS (xs := tA) (ys := tB) HS11.out (by simp) HLD.out rfl (by simp) (by kernel_rfl)).mono ?_; rintro e w12 ⟨A12, c12, rfl, hq⟩; have HS12 : Aside0 (Apart w12 [Rw (.slice A12 2 c12) [tA, tB], Mm g 3 [(kA, 5), (kB, 1)], Old w]) := ⟨hq⟩; clear hq HS11)
    | (go_at_call 29; refine (text_sep ⟨#[97]⟩ HS12.out (Below.refl _ _)).mono ?_; rintro e w13 ⟨A13, c13, rfl, hq⟩; have HS13 : Aside0 (Apart w13 [Rv (.slice A13 1 c13) [⟨4, 0, ⟨#[97]⟩⟩], Rw (.slice A12 2 c12) [tA, tB], Mm g 3 [(kA, 5), (kB, 1)], Old w]) := ⟨hq⟩; clear hq HS12)
    | (go_at_call 29; refine (text_sep ⟨#[98]⟩ HS13.out (Below.refl _ _)).mono ?_; rintro e w14 ⟨A14, c14, rfl, hq⟩; have HS14 : Aside0 (Apart w14 [Rv (.slice A14 1 c14) [⟨4, 0, ⟨#[98]⟩⟩], Rv (.slice A13 1 c13) [⟨4, 0, ⟨#[97]⟩⟩], Rw (.slice A12 2 c12) [tA, tB], Mm g 3 [(kA, 5), (kB, 1)], Old w]) := ⟨hq⟩; clear hq HS13)
    | (go_at_call 22; refine (same_lit A12 c12 tA tB _ _ HS14.out sameAB).mono ?_; rintro e w15 ⟨rfl, hq⟩; have HS15 : Aside0 (Apart w15 [Mm g 3 [(kA, 5), (kB, 1)], Old w]) := ⟨hq⟩; clear hq HS14)
    | (go_at_call 29; refine (text_sep ⟨#[97]⟩ HS15.out (Below.refl _ _)).mono ?_; rintro e w16 ⟨A16, c16, rfl, hq⟩; have HS16 : Aside0 (Apart w16 [Rv (.slice A16 1 c16) [⟨4, 0, ⟨#[97]⟩⟩], Mm g 3 [(kA, 5), (kB, 1)], Old w]) := ⟨hq⟩; clear hq HS15)
    | (go_at_call 16; refine (removeS (p := kA) (t := true) (l' := [(kB, 1)]) HS16.out (by simp) HLD.out ofA okA (by decide) (by kernel_rfl) (by kernel_rfl)).mono ?_; rintro e w17 ⟨rfl, hq⟩; have HS17 : Aside0 (Apart w17 [Mm g 3 [(kB, 1)], Old w]) := ⟨hq⟩; clear hq HS16)
    | (go_at_call 29; refine (text_sep ⟨#[97]⟩ HS17.out (Below.refl _ _)).mono ?_; rintro e w18 ⟨A18, c18, rfl, hq⟩; have HS18 : Aside0 (Apart w18 [Rv (.slice A18 1 c18) [⟨4, 0, ⟨#[97]⟩⟩], Mm g 3 [(kB, 1)], Old w]) := ⟨hq⟩; clear hq HS17)
    | (go_at_call 16; refine (removeS (p := kA) (t := false) (l' := [(kB, 1)]) HS18.out (by simp) HLD.out ofA okA (by decide) (by kernel_rfl) (by kernel_rfl)).mono ?_; rintro e w19 ⟨rfl, hq⟩; have HS19 : Aside0 (Apart w19 [Mm g 3 [(kB, 1)], Old w]) := ⟨hq⟩; clear hq HS18)
    | (go_at_call 29; refine (text_sep ⟨#[97]⟩ HS19.out (Below.refl _ _)).mono ?_; rintro e w20 ⟨A20, c20, rfl, hq⟩; have HS20 : Aside0 (Apart w20 [Rv (.slice A20 1 c20) [⟨4, 0, ⟨#[97]⟩⟩], Mm g 3 [(kB, 1)], Old w]) := ⟨hq⟩; clear hq HS19)
    | (go_at_call 14; refine (addS (p := kA) (S := 1) (l' := [(kB, 1), (kA, 1)]) HS20.out (by simp) HLD.out ofA okA (by decide) (by decide) (by kernel_rfl) (by kernel_rfl) (by kernel_rfl)).mono ?_; rintro e w21 ⟨rfl, hq⟩; have HS21 : Aside0 (Apart w21 [Mm g 4 [(kB, 1), (kA, 1)], Old w]) := ⟨hq⟩; clear hq HS20)
    | (go_at_call 20; refine (rowsS (xs := tB) (ys := tA) HS21.out (by simp) HLD.out rfl (by simp) (by kernel_rfl)).mono ?_; rintro e w22 ⟨A22, c22, rfl, hq⟩; have HS22 : Aside0 (Apart w22 [Rw (.slice A22 2 c22) [tB, tA], Mm g 4 [(kB, 1), (kA, 1)], Old w]) := ⟨hq⟩; clear hq HS21)
    | (go_at_call 29; refine (text_sep ⟨#[98]⟩ HS22.out (Below.refl _ _)).mono ?_; rintro e w23 ⟨A23, c23, rfl, hq⟩; have HS23 : Aside0 (Apart w23 [Rv (.slice A23 1 c23) [⟨4, 0, ⟨#[98]⟩⟩], Rw (.slice A22 2 c22) [tB, tA], Mm g 4 [(kB, 1), (kA, 1)], Old w]) := ⟨hq⟩; clear hq HS22)
    | (go_at_call 29; refine (text_sep ⟨#[97]⟩ HS23.out (Below.refl _ _)).mono ?_; rintro e w24 ⟨A24, c24, rfl, hq⟩; have HS24 : Aside0 (Apart w24 [Rv (.slice A24 1 c24) [⟨4, 0, ⟨#[97]⟩⟩], Rv (.slice A23 1 c23) [⟨4, 0, ⟨#[98]⟩⟩], Rw (.slice A22 2 c22) [tB, tA], Mm g 4 [(kB, 1), (kA, 1)], Old w]) := ⟨hq⟩; clear hq HS23)
    | (go_at_call 22; refine (same_lit A22 c22 tB tA _ _ HS24.out sameBA).mono ?_; rintro e w25 ⟨rfl, hq⟩; have HS25 : Aside0 (Apart w25 [Mm g 4 [(kB, 1), (kA, 1)], Old w]) := ⟨hq⟩; clear hq HS24)
    | (go_at_call 21; refine (len_sep HS25.out (Below.refl _ _)).mono ?_; rintro e w26 ⟨rfl, hq⟩; have HS26 : Aside0 (Apart w26 [Mm g 4 [(kB, 1), (kA, 1)], Old w]) := ⟨hq⟩; clear hq HS25))
  go_ret
  exact ⟨rfl, Sep.done HS26.out.tail⟩
end Go.Proofs.YtiabggpijomjmaaDoor
