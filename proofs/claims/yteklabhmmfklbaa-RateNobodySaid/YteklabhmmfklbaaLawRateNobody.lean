/-
  A rate that New did not give tells nothing (marqueelaw20.RateNobody is true at every input); no condition.
-/
import Derived.Test.YteklabhmmfklbaaRows
import Derived.Test.YteklabhmmfklbaaNobody
import Derived.Test.YteklabhmmfklbaaOpenR
namespace Go.Proofs.Yteklabhmmfklbaa.rateNobody
open Go.ChangeShapes Go.WideShapes Go.ChangeAt Go.RowKit Print
open Go.ChangeMaps (open_string shut_string)
open Go.Proofs.YteklabhmmfklbaaW.PrintWords
set_option linter.unusedVariables false
theorem arg33 {H : Type} {enc : TypeId × Value → H} {W : World} {base b0 : Nat} {sp : Nat → Bool} {held : Bool} {v : Value} {d : DataW H} {p : List MemPlace} (hv : Value.okWide Try.prog W .any base 33 v) (h : DataW.Trod enc Try.prog W b0 sp held 33 v d p) :
    ∃ tk now ev A0 n0 c0 A1 n1 c1 A2 n2 c2, v = .agg #[.bool tk, .int .i64 now, .int .i64 ev, .slice A0 n0 c0, .slice A1 n1 c1, .slice A2 n2 c2] := by
  obtain ⟨cs, rfl, hsz⟩ := okWide_struct Try.underlying33 hv
  obtain ⟨m, hm⟩ := h
  obtain ⟨x, hK, hg⟩ := opens33 H enc W b0 sp held m _ _ hm
  obtain ⟨A0, c0, A1, c1, A2, c2, he, _⟩ := k33_open hK
  refine ⟨x.1, x.2.1, x.2.2.1, A0, x.2.2.2.1.f0.length, c0, A1, x.2.2.2.1.f1.length, c1, A2, x.2.2.2.2.length, c2, ?_⟩
  have he' : cs.toList = _ := he
  congr 1
  apply Array.toList_inj.1
  rw [he']
set_option maxRecDepth 100000 in
theorem lifted (os : Os) (started : os.Started) (H : Type) (enc : TypeId × Value → H) :
    ReturnsInHanded {} Try.checked os 6 .any (Rows.rateNobodySpec.pre6 enc Try.prog Try.f6 Rows.rateNobodyRow.domain false) (Rows.rateNobodySpec.post enc Try.prog Try.f6 false true false false) := by
  refine returnsInHanded_of_change_sized (C := Try.checked) own started (by kernel_rfl) Try.func6
    (ChangeSpec.witness6 (enc := enc) (C := Try.checked) false ⟨#[], #[.agg #[.bool false, .int .i64 0, .int .i64 0, .slice none 0 0, .slice none 0 0, .slice none 0 0]], []⟩ 12 (by kernel_rfl) (by kernel_rfl) (by kernel_rfl) (by kernel_rfl)) ?_
  intro W base args ds gs before hval0 hW hcnd hsz0 _
  have hval : ∀ (j : Nat) t v, Try.f6.params[j]? = some t → args[j]? = some v → Value.okWide Try.prog W .any base t v := hval0
  have hW' := hW
  obtain ⟨p, q, hA0, hV, rfl, hfz, hnd⟩ := hW
  have hA : DataW.TrodAll enc Try.prog W 0 (fun _ => true) true Try.f6.params.toList args.toList ds p := hA0
  rw [Try.params6] at hA hval
  obtain ⟨v0, d0, rfl, rfl, h0⟩ := trodAll_one hA
  obtain ⟨rfl, rfl⟩ := trodVars_none hV
  have lt0 : ∀ x ∈ p, x.block < W.heap.size := by obtain ⟨m, hm⟩ := h0; exact DataW.trod_lt m _ _ _ hm
  obtain ⟨tk, now, ev, A0, n0, c0, A1, n1, c1, A2, n2, c2, rfl⟩ := arg33 (hval 0 33 v0 rfl rfl) h0
  clear hA0 hval0 hsz0
  refine (nobody_any tk now ev A0 n0 c0 A1 n1 c1 A2 n2 c2 W).mono fun e W' ⟨he, bel⟩ => ?_
  subst he
  exact ⟨_, rfl, _, _, _, [], _, [], hW', trodAll_mk1 (shut_bool Try.underlying4 _), (trodAll_cons_mk (Below.trod laidOut (by kernel_rfl) (of_decide_eq_true (by kernel_rfl)) h0 bel lt0) trodAll_mk0), rfl, bel.frame _, fun h => by cases h⟩
theorem over : Rows.rateNobodyRow.holds Try.pinned (OpenSpec.ofChange Rows.rateNobodySpec) :=
  OpenClaim.holds_of_wide 6 Try.f6 rfl rfl rfl rfl rfl rfl rfl ⟨rfl, rfl, rfl, rfl, rfl⟩ rfl rfl rfl rfl rfl (by kernel_rfl) Try.func6 (by kernel_rfl)
    (of_decide_eq_true (by kernel_rfl)) (by unfold Func.isWrapper; first | (rw [if_pos (by decide +kernel)]; kernel_rfl) | (rw [if_neg (by decide +kernel)]; exact ⟨rfl, rfl⟩))
    (fun os started H enc _ => lifted os started H enc)
theorem proved : Rows.RateNobodySaid := over
#print axioms proved
end Go.Proofs.Yteklabhmmfklbaa.rateNobody
namespace Go.Proofs.Yteklabhmmfklbaa
/-- The row, under a short name, for the claim. -/
theorem rateNobody_holds : Rows.RateNobodySaid := rateNobody.proved
end Go.Proofs.Yteklabhmmfklbaa
