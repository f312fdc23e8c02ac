import Derived.Test.YteklabhmmfklbaaPlain0
import Derived.Test.YteklabhmmfklbaaPx3
namespace Go.Proofs.Yteklabhmmfklbaa
open Go.RowKit Print Go.Proofs.YteklabhmmfklbaaW.PrintWords Go.Proofs.YteklabhmmfklbaaW.PrintLast Go.Proofs.YteklabhmmfklbaaW.PrintMore
set_option linter.unusedVariables false
/-! ### What is the same as itself -/
theorem Ev.stops {α : Type} {g : Nat → Option α} {r : α} (h : ∀ k, g (k + 1) = some r) : Ev g r := Ev.step (f := fun _ => some r) h (Ev.now r)
theorem Ev.next {α : Type} {g f : Nat → Option α} {r : α} (k : Ev f r) (h : ∀ k, g (k + 1) = f k) : Ev g r := Ev.step h k
theorem row_l0 (l : List S68) (hl : l.length ≤ 2097152) (d : Nat) : ∀ i, i + d = l.length → Ev (fun k => marqueeref03_SameRow.l0 k l l (i : Int)) true := by
  induction d with
  | zero =>
    intro i hi
    refine Ev.stops (fun k => ?_)
    simp only [marqueeref03_SameRow.l0]
    rw [if_neg (by omega)]
  | succ d ih =>
    intro i hi
    have e1 : wrap64 ((i : Int) + 1) = ((i + 1 : Nat) : Int) := by rw [w64 ⟨by omega, by omega⟩]; omega
    refine Ev.next (ih (i + 1) (by omega)) (fun k => ?_)
    simp only [marqueeref03_SameRow.l0]
    rw [if_pos (by omega), if_pos (by omega), if_pos (by omega), e1, if_neg (by simp)]
theorem row_same (l : List S68) (hl : l.length ≤ 2097152) : Ev (fun k => marqueeref03_SameRow.f k l l) true :=
  Ev.congr (fun k => by unfold marqueeref03_SameRow.f; rw [if_pos rfl]; rfl) (row_l0 l hl l.length 0 (by omega))
theorem rows_l0 (l : List (List S68)) (hs : Sm l) (d : Nat) : ∀ i, i + d = l.length → Ev (fun k => marqueeref03_SameRows.l0 k l l (i : Int)) true := by
  have hl := hs.1
  induction d with
  | zero =>
    intro i hi
    refine Ev.stops (fun k => ?_)
    simp only [marqueeref03_SameRows.l0]
    rw [if_neg (by omega)]
  | succ d ih =>
    intro i hi
    have e1 : wrap64 ((i : Int) + 1) = ((i + 1 : Nat) : Int) := by rw [w64 ⟨by omega, by omega⟩]; omega
    have hx : rd_L3 l (i : Int) = l[i]'(by omega) := by unfold rd_L3; rw [Int.toNat_natCast]; exact getD_get l _ i (by omega)
    have hrow := row_same (rd_L3 l (i : Int)) (by rw [hx]; exact hs.2 _ (List.getElem_mem _))
    refine Ev.step (f := fun k => (marqueeref03_SameRow.f k (rd_L3 l (i : Int)) (rd_L3 l (i : Int))).bind fun t => if t = true then marqueeref03_SameRows.l0 k l l ((i + 1 : Nat) : Int) else some false) (fun k => ?_) (Ev.bind hrow (Ev.congr (fun k => if_pos rfl) (ih (i + 1) (by omega))))
    simp only [marqueeref03_SameRows.l0]
    rw [if_pos (by omega), if_pos (by omega), if_pos (by omega), e1]
theorem rows_same (l : List (List S68)) (hs : Sm l) : Ev (fun k => marqueeref03_SameRows.f k l l) true :=
  Ev.congr (fun k => by unfold marqueeref03_SameRows.f; rw [if_pos rfl]; rfl) (rows_l0 l hs l.length 0 (by omega))
/-- Deliveries of no great number. -/
def SmD (l : List S43) : Prop := l.length ≤ 2097152 ∧ ∀ x ∈ l, Sm x.f1.f0 ∧ Sm x.f1.f1
theorem dels_l0 (l : List S43) (hs : SmD l) (d : Nat) : ∀ i, i + d = l.length → Ev (fun k => marqueeref20_Same.l0 k l l (i : Int)) true := by
  have hl := hs.1
  induction d with
  | zero =>
    intro i hi
    refine Ev.stops (fun k => ?_)
    simp only [marqueeref20_Same.l0]
    rw [if_neg (by omega)]
  | succ d ih =>
    intro i hi
    have e1 : wrap64 ((i : Int) + 1) = ((i + 1 : Nat) : Int) := by rw [w64 ⟨by omega, by omega⟩]; omega
    have hx : rd_T43 l (i : Int) = l[i]'(by omega) := by unfold rd_T43; rw [Int.toNat_natCast]; exact getD_get l _ i (by omega)
    obtain ⟨h1, h2⟩ := hs.2 _ (List.getElem_mem (show i < l.length by omega))
    rw [← hx] at h1 h2
    refine Ev.step (f := fun k => (marqueeref03_SameRows.f k (rd_T43 l (i : Int)).f1.f0 (rd_T43 l (i : Int)).f1.f0).bind fun t => if t = true then ((marqueeref03_SameRows.f k (rd_T43 l (i : Int)).f1.f1 (rd_T43 l (i : Int)).f1.f1).bind fun t => if t = true then marqueeref20_Same.l0 k l l ((i + 1 : Nat) : Int) else some false) else some false) (fun k => ?_) (Ev.bind (rows_same _ h1) (Ev.congr (fun k => if_pos rfl) (Ev.bind (rows_same _ h2) (Ev.congr (fun k => if_pos rfl) (ih (i + 1) (by omega))))))
    simp only [marqueeref20_Same.l0]
    rw [if_pos (by omega), if_pos (by omega), if_pos (by omega), if_pos (by trivial), e1]
theorem dels_same (l : List S43) (hs : SmD l) : Ev (fun k => marqueelaw20_same.f k l l) true := by
  unfold marqueelaw20_same.f
  exact Ev.bind (Ev.congr (fun k => by unfold marqueeref20_Same.f; rw [if_pos rfl]; rfl) (dels_l0 l hs l.length 0 (by omega))) (Ev.now _)
/-- 'same' of what is the same. -/
theorem same_any (A : Option Addr) (c : Nat) (A' : Option Addr) (c' : Nat) (l : List S43) (w : World) (h : k43.C w A l.length l) (hc : l.length ≤ c) (h' : k43.C w A' l.length l) (hc' : l.length ≤ c') (hs : SmD l) :
    Calls Try.prog 13 #[.slice A l.length c, .slice A' l.length c'] w fun e w' => e = .returned (.bool true) ∧ Below w.heap.size w w' := by
  obtain ⟨k, hk⟩ := (dels_same l hs).rounds
  exact marqueelaw20_same.calls k A c l A' c' l true w h hc h' hc' hk
theorem sameRows_any (A : Option Addr) (c : Nat) (A' : Option Addr) (c' : Nat) (l : List (List S68)) (w : World) (h : kR.C w A l.length l) (hc : l.length ≤ c) (h' : kR.C w A' l.length l) (hc' : l.length ≤ c') (hs : Sm l) :
    Calls Try.prog 15 #[.slice A l.length c, .slice A' l.length c'] w fun e w' => e = .returned (.bool true) ∧ Below w.heap.size w w' := by
  obtain ⟨k, hk⟩ := (rows_same l hs).rounds
  exact (marqueeref03_SameRows.calls k A c l A' c' l true w h hc h' hc' hk).mono fun e w' ⟨he, hd⟩ => ⟨he, hd.below⟩
end Go.Proofs.Yteklabhmmfklbaa
