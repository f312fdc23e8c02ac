import Derived.Test.YteklabhmmfklbaaFeed
namespace Go.Proofs.Yteklabhmmfklbaa
open Go.RowKit Print Go.Proofs.YteklabhmmfklbaaW.PrintWords Go.Proofs.YteklabhmmfklbaaW.PrintLast Go.Proofs.YteklabhmmfklbaaW.PrintMore
set_option linter.unusedVariables false
/-! ### What lies apart in memory -/
/-- A thing in memory and the blocks that are its own. -/
structure Asr where
  P : World → (Nat → Prop) → Prop
  lt : ∀ {w F}, P w F → ∀ k, F k → k < w.heap.size
  keep : ∀ {w w' F S}, P w F → K3 w w' S → (∀ k, F k → ¬ S k) → P w' F
/-- All of them, each in blocks of its own, and none of U's. -/
def Sep (w : World) : List Asr → (Nat → Prop) → Prop
  | [], _ => True
  | A :: l, U => ∃ F, A.P w F ∧ (∀ k, F k → ¬ U k) ∧ Sep w l (fun k => U k ∨ F k)
abbrev Apart (w : World) (l : List Asr) : Prop := Sep w l (fun _ => False)
theorem Sep.mono {w : World} : ∀ {l : List Asr} {U U' : Nat → Prop}, Sep w l U → (∀ k, U' k → U k) → Sep w l U'
  | [], _, _, _, _ => trivial
  | A :: l, U, U', ⟨F, hA, hF, hl⟩, h => ⟨F, hA, fun k hk hu => hF k hk (h k hu), hl.mono (fun k hk => hk.imp (h k) id)⟩
theorem Sep.frame {w w' : World} {S : Nat → Prop} (hk : K3 w w' S) : ∀ {l : List Asr} {U U' : Nat → Prop}, Sep w l U → (∀ k, S k → U k) → (∀ k, U' k → U k ∨ w.heap.size ≤ k) → Sep w' l U'
  | [], _, _, _, _, _ => trivial
  | A :: l, U, U', ⟨F, hA, hF, hl⟩, hS, hU => ⟨F, A.keep hA hk (fun k hf hs => hF k hf (hS k hs)), fun k hf hu => (hU k hu).elim (hF k hf) (fun h => by have := A.lt hA k hf; omega),
      hl.frame hk (fun k hs => .inl (hS k hs)) (fun k hu => hu.elim (fun h => (hU k h).imp .inl id) (fun h => .inl (.inr h)))⟩
theorem Sep.below {w w' : World} {l : List Asr} {U : Nat → Prop} (h : Sep w l U) (hb : Below w.heap.size w w') : Sep w' l U :=
  h.frame (K3.of_below hb (fun _ => False)) (fun _ hs => hs.elim) (fun _ hu => .inl hu)
theorem Sep.swap {w : World} {A B : Asr} {l : List Asr} {U : Nat → Prop} (h : Sep w (A :: B :: l) U) : Sep w (B :: A :: l) U := by
  obtain ⟨F, hA, hF, G, hB, hG, hl⟩ := h
  exact ⟨G, hB, fun k hk hu => hG k hk (.inl hu), F, hA, fun k hk hu => hu.elim (hF k hk) (fun hg => hG k hg (.inr hk)), hl.mono (fun k hk => hk.elim (fun h => h.elim (fun h => .inl (.inl h)) .inr) (fun h => .inl (.inr h)))⟩
/-- The i-th one, set ahead. -/
def pick : Nat → List Asr → List Asr
  | 0, l => l
  | i + 1, A :: l => match pick i l with
    | [] => [A]
    | B :: l' => B :: A :: l'
  | _ + 1, [] => []
theorem Sep.pick {w : World} : ∀ (i : Nat) {l : List Asr} {U : Nat → Prop}, Sep w l U → Sep w (pick i l) U
  | 0, _, _, h => h
  | i + 1, [], _, h => h
  | i + 1, A :: l, U, ⟨F, hA, hF, hl⟩ => by
    have := hl.pick i
    show Sep w (match Yteklabhmmfklbaa.pick i l with | [] => [A] | B :: l' => B :: A :: l') U
    revert this
    cases Yteklabhmmfklbaa.pick i l with
    | nil => exact fun _ => ⟨F, hA, hF, trivial⟩
    | cons B l' => exact fun h2 => Sep.swap ⟨F, hA, hF, h2⟩
theorem Sep.tail {w : World} {A : Asr} {l : List Asr} {U : Nat → Prop} (h : Sep w (A :: l) U) : Sep w l U := by
  obtain ⟨F, hA, hF, hl⟩ := h
  exact hl.mono (fun k hk => .inl hk)
/-- What was made anew is set ahead. -/
theorem Sep.new {w w' : World} {A : Asr} {l : List Asr} {F : Nat → Prop} (h : Apart w l) (hb : Below w.heap.size w w') (hA : A.P w' F) (hF : ∀ k, F k → w.heap.size ≤ k) : Apart w' (A :: l) :=
  ⟨F, hA, fun _ _ h => h, Sep.frame (K3.of_below hb (fun _ => False)) h (fun _ hs => hs.elim) (fun k hu => hu.elim .inl (fun hk => .inr (hF k hk)))⟩
/-! #### the things -/
/-- What is elder than w0: nothing of it was touched. -/
def Old (w0 : World) : Asr where
  P w F := (∀ k, F k ↔ k < w0.heap.size) ∧ Below w0.heap.size w0 w
  lt h k hk := Nat.lt_of_lt_of_le ((h.1 k).1 hk) h.2.size
  keep h hk hd := ⟨h.1, K3.to_below h.2 hk (fun k hs => Nat.le_of_not_lt (fun hl => hd k ((h.1 k).2 hl) hs))⟩
/-- A rate. -/
def Rt (g : Nat) (s : St) (ri ro : RowsL) : Asr where
  P w F := ∃ vi vo, ∃ okI okO : Nat → Prop, Both w g s okI okO vi vo ri ro ∧ ∀ k, F k ↔ (k = g ∨ okI k ∨ okO k)
  lt h k hk := by
    obtain ⟨vi, vo, okI, okO, hB, hF⟩ := h
    rcases (hF k).1 hk with e | h | h
    · subst e; exact hB.at_.lt
    · exact hB.bI k h
    · exact hB.bO k h
  keep h hk hd := by
    obtain ⟨vi, vo, okI, okO, hB, hF⟩ := h
    exact ⟨vi, vo, okI, okO, ⟨hB.at_.kept hk (hd _ ((hF _).2 (.inl rfl))), K3.R hB.hi hk (fun k h => hd k ((hF k).2 (.inr (.inl h)))), K3.R hB.ho hk (fun k h => hd k ((hF k).2 (.inr (.inr h)))), hB.gI, hB.gO, fun k h => Nat.lt_of_lt_of_le (hB.bI k h) hk.1, fun k h => Nat.lt_of_lt_of_le (hB.bO k h) hk.1, hB.dis⟩, hF⟩
/-- Deliveries. -/
def Dl (v : Value) (l : List S43) : Asr where
  P w F := k43.R 43 w 0 F v l ∧ ∀ k, F k → k < w.heap.size
  lt h := h.2
  keep h hk hd := ⟨K3.R h.1 hk hd, fun k hf => Nat.lt_of_lt_of_le (h.2 k hf) hk.1⟩
/-- Rows. -/
def Rw (v : Value) (l : RowsL) : Asr where
  P w F := kR.R 61 w 0 F v l ∧ ∀ k, F k → k < w.heap.size
  lt h := h.2
  keep h hk hd := ⟨K3.R h.1 hk hd, fun k hf => Nat.lt_of_lt_of_le (h.2 k hf) hk.1⟩
theorem Sep.begin (w : World) : Apart w [Old w] := ⟨fun k => k < w.heap.size, ⟨fun _ => Iff.rfl, Below.refl _ _⟩, fun _ _ h => h, trivial⟩
theorem Sep.done {w0 w : World} {l : List Asr} (h : Apart w (Old w0 :: l)) : Below w0.heap.size w0 w := h.choose_spec.1.2
end Go.Proofs.Yteklabhmmfklbaa
