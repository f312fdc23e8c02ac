import Derived.Test.YteklabhmmfklbaaSep2
namespace Go.Proofs.Yteklabhmmfklbaa
open Go.RowKit Print Go.Proofs.YteklabhmmfklbaaW.PrintWords Go.Proofs.YteklabhmmfklbaaW.PrintLast Go.Proofs.YteklabhmmfklbaaW.PrintMore
set_option linter.unusedVariables false
def okS (k n : Int) (t : Bool) : Prop := (k = 0 ∧ n = 0 ∧ t = false) ∨ ((k = 1 ∨ k = 2 ∨ k = 3 ∨ k = 4) ∧ 1 ≤ n ∧ n ≤ 1099511627776)
theorem j1_form (m : Nat) (x3 : Int) (x6 : Bool) (k n : Int) (t : Bool) : rate_Check.j1 (m + 1) x3 x6 k n t = if x6 = true then (some 0) else (if k ≥ 1 then (if k ≤ 4 then (if n ≥ 1 then (if n ≤ x3 then (some 0) else (some 1)) else (some 1)) else (some 1)) else (some 1)) := by unfold rate_Check.j1; rfl
theorem j0_form (m : Nat) (x3 : Int) (k n : Int) (t : Bool) : rate_Check.j0 (m + 1) x3 k n t = if k = 0 then (if n = 0 then (rate_Check.j1 m x3 (!t) k n t) else (rate_Check.j1 m x3 false k n t)) else (rate_Check.j1 m x3 false k n t) := by unfold rate_Check.j0; rfl
theorem j1_res (m : Nat) (x3 : Int) (k n : Int) (t : Bool) (h3 : x3 ≤ 1099511627776) : (rate_Check.j1 (m + 1) x3 false k n t = some 0 ∧ okS k n t) ∨ rate_Check.j1 (m + 1) x3 false k n t = some 1 := by
  rw [j1_form, if_neg (by decide)]
  by_cases h1 : k ≥ 1
  · rw [if_pos h1]
    by_cases h2 : k ≤ 4
    · rw [if_pos h2]
      by_cases h4 : n ≥ 1
      · rw [if_pos h4]
        by_cases h5 : n ≤ x3
        · rw [if_pos h5]; exact .inl ⟨rfl, .inr ⟨by omega, by omega, by omega⟩⟩
        · rw [if_neg h5]; exact .inr rfl
      · rw [if_neg h4]; exact .inr rfl
    · rw [if_neg h2]; exact .inr rfl
  · rw [if_neg h1]; exact .inr rfl
theorem j0_res (m : Nat) (x3 : Int) (k n : Int) (t : Bool) (h3 : x3 ≤ 1099511627776) : (rate_Check.j0 (m + 2) x3 k n t = some 0 ∧ okS k n t) ∨ rate_Check.j0 (m + 2) x3 k n t = some 1 := by
  rw [j0_form]
  by_cases k0 : k = 0
  · rw [if_pos k0]
    by_cases n0 : n = 0
    · rw [if_pos n0]
      cases t
      · rw [j1_form]
        exact .inl ⟨rfl, .inl ⟨k0, n0, rfl⟩⟩
      · exact j1_res m x3 k n true h3
    · rw [if_neg n0]; exact j1_res m x3 k n t h3
  · rw [if_neg k0]; exact j1_res m x3 k n t h3
theorem check_form (k n : Int) (t : Bool) : (rate_Check.f 4 k n t = some 0 ∧ okS k n t) ∨ rate_Check.f 4 k n t = some 1 := by
  unfold rate_Check.f
  cases t
  · rw [if_neg (by decide)]; exact j0_res 2 65536 k n false (by decide)
  · rw [if_pos rfl]; exact j0_res 2 1099511627776 k n true (by decide)
theorem check_yes {k n : Int} {t : Bool} (h : rate_Check.f 4 k n t = some 0) : okS k n t := by
  rcases check_form k n t with h2 | h2
  · exact h2.2
  · rw [h] at h2; cases h2
end Go.Proofs.Yteklabhmmfklbaa
