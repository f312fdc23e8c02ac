import Derived.Test.YteklabhmmfklbaaSt
namespace Go.Proofs.Yteklabhmmfklbaa
open Go.RowKit Print Go.Proofs.YteklabhmmfklbaaW.PrintWords Go.Proofs.YteklabhmmfklbaaW.PrintLast Go.Proofs.YteklabhmmfklbaaW.PrintMore
set_option linter.unusedVariables false
theorem w64 {x : Int} (h : -9223372036854775808 ≤ x ∧ x ≤ 9223372036854775807) : wrap64 x = x := by unfold wrap64; omega
theorem getD_get {α : Type} (l : List α) (z : α) (i : Nat) (h : i < l.length) : l.getD i z = l[i] := by rw [List.getD_eq_getElem?_getD, List.getElem?_eq_getElem h]; rfl
abbrev kR : Kd (List S68) := Kd.slice 68 k68
/-- Rows of no great number. -/
def Sm (l : List (List S68)) : Prop := l.length ≤ 2097152 ∧ ∀ x ∈ l, x.length ≤ 2097152
theorem Sm.nil : Sm [] := ⟨Nat.zero_le _, fun x h => by cases h⟩
/-- Rows copied are the rows. -/
theorem copied_l0 (l : List (List S68)) (hs : Sm l) (d : Nat) : ∀ i, i + d = l.length → ∀ k, d < k → rate_copied.l0 k (l.take i) l (l.length : Int) (i : Int) = some l := by
  obtain ⟨hl, hr⟩ := hs
  induction d with
  | zero =>
    intro i hi k hk
    obtain ⟨k, rfl⟩ : ∃ m, k = m + 1 := ⟨k - 1, by omega⟩
    simp only [rate_copied.l0]
    rw [if_neg (by omega), List.take_of_length_le (by omega)]
  | succ d ih =>
    intro i hi k hk
    obtain ⟨k, rfl⟩ : ∃ m, k = m + 1 := ⟨k - 1, by omega⟩
    have e1 : wrap64 ((i : Int) + 1) = ((i + 1 : Nat) : Int) := by rw [w64 ⟨by omega, by omega⟩]; omega
    have hx : rd_L3 l (i : Int) = l[i]'(by omega) := by unfold rd_L3; rw [Int.toNat_natCast]; exact getD_get l _ i (by omega)
    have hc : api_Value.f (l[i]'(by omega)) = some (l[i]'(by omega)) := by unfold api_Value.f; rw [if_pos (by have := hr _ (List.getElem_mem (show i < l.length by omega)); omega)]
    have := ih (i + 1) (by omega) k (by omega)
    rw [List.take_succ_eq_append_getElem (by omega)] at this
    simp only [rate_copied.l0]
    have hlt : (l.take i).length < 5864062014805 := by rw [List.length_take]; omega
    rw [if_pos (by omega), if_pos (by omega), if_pos (by omega), hx, hc, Option.bind_some, if_pos hlt, e1]
    exact this
theorem copied_eq (l : List (List S68)) (hs : Sm l) : rate_copied.f (l.length + 1) l = some l := by
  have := copied_l0 l hs l.length 0 (by omega) (l.length + 1) (by omega)
  simpa [rate_copied.f] using this
theorem copied_any (A : Option Addr) (c : Nat) (l : List (List S68)) (w : World) (h : kR.C w A l.length l) (hc : l.length ≤ c) (hs : Sm l) :
    Calls Try.prog 27 #[.slice A l.length c] w fun e w' => ∃ v : Value, e = .returned v ∧ kR.R 61 w' w.heap.size (fun k => w.heap.size ≤ k) v l ∧ Below w.heap.size w w' :=
  (rate_copied.calls _ A c l l w h hc (copied_eq l hs)).mono fun e w' ⟨v, he, hS, hb⟩ => ⟨v, he, Kd.R_mono (Kd.R_bound (Kd.S_R hS)) (fun _ hk => hk.2.1), hb⟩
/-- A row copied, the law's way. -/
theorem twin_l0 (l : List (List S68)) (hs : Sm l) (d : Nat) : ∀ i, i + d = l.length → ∀ k, d < k → marqueelaw20_twin.l0 k l (l.take i) (i : Int) = some l := by
  obtain ⟨hl, hr⟩ := hs
  induction d with
  | zero =>
    intro i hi k hk
    obtain ⟨k, rfl⟩ : ∃ m, k = m + 1 := ⟨k - 1, by omega⟩
    simp only [marqueelaw20_twin.l0]
    rw [if_neg (by omega), List.take_of_length_le (by omega)]
  | succ d ih =>
    intro i hi k hk
    obtain ⟨k, rfl⟩ : ∃ m, k = m + 1 := ⟨k - 1, by omega⟩
    have e1 : wrap64 ((i : Int) + 1) = ((i + 1 : Nat) : Int) := by rw [w64 ⟨by omega, by omega⟩]; omega
    have hx : rd_L3 l (i : Int) = l[i]'(by omega) := by unfold rd_L3; rw [Int.toNat_natCast]; exact getD_get l _ i (by omega)
    have hc := hr _ (List.getElem_mem (show i < l.length by omega))
    have := ih (i + 1) (by omega) k (by omega)
    rw [List.take_succ_eq_append_getElem (by omega)] at this
    simp only [marqueelaw20_twin.l0]
    have hlt : (l.take i).length < 5864062014805 := by rw [List.length_take]; omega
    rw [if_pos (by omega), if_pos (by omega), hx, if_pos (by rw [List.length_nil]; omega), if_pos hlt, e1, List.nil_append]
    exact this
theorem twin_eq (l : List (List S68)) (hs : Sm l) : marqueelaw20_twin.f (l.length + 1) l = some l := by
  have := twin_l0 l hs l.length 0 (by omega) (l.length + 1) (by omega)
  simpa [marqueelaw20_twin.f] using this
theorem twin_any (A : Option Addr) (c : Nat) (l : List (List S68)) (w : World) (h : kR.C w A l.length l) (hc : l.length ≤ c) (hs : Sm l) :
    Calls Try.prog 19 #[.slice A l.length c] w fun e w' => ∃ v : Value, e = .returned v ∧ kR.R 61 w' w.heap.size (fun k => w.heap.size ≤ k) v l ∧ Below w.heap.size w w' :=
  (marqueelaw20_twin.calls _ A c l l w h hc (twin_eq l hs)).mono fun e w' ⟨v, he, hS, hb⟩ => ⟨v, he, Kd.R_mono (Kd.R_bound (Kd.S_R hS)) (fun _ hk => hk.2.1), hb⟩
end Go.Proofs.Yteklabhmmfklbaa
