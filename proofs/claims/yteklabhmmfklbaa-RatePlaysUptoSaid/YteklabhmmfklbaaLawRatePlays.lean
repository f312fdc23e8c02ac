/-
  A rate answers every operation as the document's own rate does, and what is written over afterwards changes nothing (marqueelaw20.RatePlays is true at every input whose reading is of bulk at most 1048576).
-/
import Derived.Test.YteklabhmmfklbaaRows
import Derived.Test.YteklabhmmfklbaaPlays
import Derived.Test.YteklabhmmfklbaaPlaysN
import Derived.Test.YteklabhmmfklbaaMgO
import Derived.JoinedCond
namespace Go.Proofs.Yteklabhmmfklbaa.ratePlays
open Go.ChangeShapes Go.WideShapes Go.ChangeAt Go.RowKit Print
open Go.Proofs.YteklabhmmfklbaaW.PrintWords
set_option linter.unusedVariables false
abbrev k23 : Kd (Int × Int × Bool) := Kd.pair (Kd.int .i64) (Kd.pair (Kd.int .i64) Kd.bool)
theorem opens23 : Opens Try.prog 23 k23 (fun _ => True) :=
  (Opens.struct Try.underlying23 rfl (by kernel_rfl) (OpensFs.cons rfl (by kernel_rfl) (Opens.int Try.underlying3) (OpensFs.cons rfl (by kernel_rfl) (Opens.int Try.underlying3) (OpensFs.one rfl (by kernel_rfl) (Opens.bool Try.underlying4))))).mono (fun _ _ => trivial)
theorem arg23 {H : Type} {enc : TypeId × Value → H} {W : World} {base b0 : Nat} {sp : Nat → Bool} {held : Bool} {v : Value} {d : DataW H} {p : List MemPlace} (hv : Value.okWide Try.prog W .any base 23 v) (h : DataW.Trod enc Try.prog W b0 sp held 23 v d p) :
    ∃ k n t, v = .agg #[.int .i64 k, .int .i64 n, .bool t] := by
  obtain ⟨cs, rfl, hsz⟩ := okWide_struct Try.underlying23 hv
  obtain ⟨m, hm⟩ := h
  obtain ⟨x, hK, _⟩ := opens23 H enc W b0 sp held m _ _ hm
  obtain ⟨a, r, he, ha, b, r2, rfl, hb, hc⟩ := hK
  have ha' : a = [.int .i64 x.1] := ha
  have hb' : b = [.int .i64 x.2.1] := hb
  have hc' : r2 = [.bool x.2.2] := hc
  subst ha' hb' hc'
  refine ⟨x.1, x.2.1, x.2.2, ?_⟩
  have he' : cs.toList = _ := he
  congr 1
  apply Array.toList_inj.1
  rw [he']
  rfl
theorem arg24 {H : Type} {enc : TypeId × Value → H} {W : World} {base b0 : Nat} {sp : Nat → Bool} {held : Bool} {v : Value} {d : DataW H} {p : List MemPlace} (hv : Value.okWide Try.prog W .any base 24 v) (h : DataW.Trod enc Try.prog W b0 sp held 24 v d p) :
    ∃ A c l, v = .slice A (List.length l) c ∧ l.length ≤ c ∧ Kd.C k33 W A l.length l ∧ muS mu33 l + 1 ≤ Rows.uptoBulk d := by
  obtain ⟨a, len, cap, rfl⟩ := okWide_slice Try.underlying24 hv
  obtain ⟨m, hm⟩ := h
  obtain ⟨l, ⟨A, c, he, hl, hC⟩, hb⟩ := opensB24 H enc W b0 sp held m _ _ hm
  have he' : [Value.slice a len cap] = [Value.slice A l.length c] := he
  injection he' with he' _
  exact ⟨A, c, l, he', hl, hC, hb⟩
theorem mu_parts {l : List O33} (h : muS mu33 l ≤ 1048576) : tot l ≤ 1048576 ∧ ∀ o ∈ l, Sm o.2.2.2.1.f0 ∧ Sm o.2.2.2.1.f1 ∧ Sm o.2.2.2.2 := by
  have len_le : ∀ r : RowsL, r.length ≤ muR r := fun r => by show _ ≤ (r.map _).sum + r.length; omega
  have mem_le : ∀ (ns : List Nat) (x : Nat), x ∈ ns → x ≤ ns.sum := by
    intro ns
    induction ns with
    | nil => intro x hx; cases hx
    | cons a ns ih =>
      intro x hx
      rcases List.mem_cons.1 hx with rfl | hx
      · simp
      · have := ih x hx; simp only [List.sum_cons]; omega
  have sm : ∀ r : RowsL, muR r ≤ 1048576 → Sm r := fun r hr => ⟨by have := len_le r; omega, fun x hx => by
    have h1 : (muS fun _ => 0) x ≤ (r.map (muS fun _ => 0)).sum := mem_le _ _ (List.mem_map_of_mem hx)
    have h2 : x.length ≤ (muS (fun _ : S68 => 0)) x := by show _ ≤ (x.map _).sum + x.length; omega
    have h3 : (r.map (muS fun _ => 0)).sum ≤ muR r := by show _ ≤ (r.map _).sum + r.length; omega
    omega⟩
  have hs : (l.map mu33).sum ≤ 1048576 := by have : (l.map mu33).sum + l.length ≤ 1048576 := h; omega
  refine ⟨?_, fun o ho => ?_⟩
  · refine Nat.le_trans ?_ hs
    unfold tot
    have : ∀ l : List O33, (l.map fun o => o.2.2.2.1.f0.length + o.2.2.2.1.f1.length).sum ≤ (l.map mu33).sum := by
      intro l
      induction l with
      | nil => simp
      | cons o l ih =>
        simp only [List.map_cons, List.sum_cons]
        have h1 := len_le o.2.2.2.1.f0
        have h2 := len_le o.2.2.2.1.f1
        have e : mu33 o = (muR o.2.2.2.1.f0 + muR o.2.2.2.1.f1) + muR o.2.2.2.2 := by show 0 + (0 + (0 + _)) = _; omega
        rw [e]
        omega
    exact this l
  · have h1 : mu33 o ≤ (l.map mu33).sum := mem_le _ _ (List.mem_map_of_mem ho)
    have e : mu33 o = (muR o.2.2.2.1.f0 + muR o.2.2.2.1.f1) + muR o.2.2.2.2 := by show 0 + (0 + (0 + _)) = _; omega
    rw [e] at h1
    exact ⟨sm _ (by omega), sm _ (by omega), sm _ (by omega)⟩
set_option maxRecDepth 100000 in
theorem lifted (os : Os) (started : os.Started) (H : Type) (enc : TypeId × Value → H) (F : Stop.Interp) :
    ReturnsInHanded {} Try.checked os 5 .any ((Rows.OpenSpec.upto Rows.ratePlaysSpec).pre6 enc Try.prog Try.f5 Rows.ratePlaysUptoRow.domain false) (((Rows.OpenSpec.upto Rows.ratePlaysSpec).at F).post enc Try.prog Try.f5 false true false false) := by
  refine returnsInHanded_of_cond (C := Try.checked) (s := Rows.OpenSpec.upto Rows.ratePlaysSpec) (k := Rows.uptoSmall) rfl own started (by kernel_rfl) Try.func5
    (OpenSpec.witness (enc := enc) (C := Try.checked) (s := Rows.OpenSpec.upto Rows.ratePlaysSpec) (k := Rows.uptoSmall) rfl false ⟨#[], #[.agg #[.int .i64 0, .int .i64 0, .bool false], .int .i64 0, .slice none 0 0], []⟩ 8 (by kernel_rfl) (by kernel_rfl) (by kernel_rfl)
      (x := ([.agg [.lit (.int .i64 0), .lit (.int .i64 0), .lit (.bool false)], .lit (.int .i64 0), .nil], [], [])) (by kernel_rfl) rfl (by kernel_rfl)) ?_
  intro W base args ds gs before hval0 hW _ hk _
  have hval : ∀ (j : Nat) t v, Try.f5.params[j]? = some t → args[j]? = some v → Value.okWide Try.prog W .any base t v := hval0
  have hW' := hW
  obtain ⟨p, q, hA0, hV, rfl, hfz, hnd⟩ := hW
  have hA : DataW.TrodAll enc Try.prog W 0 (fun _ => true) true Try.f5.params.toList args.toList ds p := hA0
  rw [Try.params5] at hA hval
  obtain ⟨v0, vs0, d0, ds0, p0, q0, hargs, rfl, rfl, h0, r0⟩ := trodAll_cons hA
  obtain ⟨v1, vs1, d1, ds1, p1, q1, hargs1, rfl, rfl, h1, r1⟩ := trodAll_cons r0
  obtain ⟨v2, vs2, d2, ds2, p2, q2, hargs2, rfl, rfl, h2, r2⟩ := trodAll_cons r1
  obtain ⟨hargs3, rfl, rfl⟩ := trodAll_nil r2
  subst hargs3 hargs2 hargs1
  obtain rfl : args = #[v0, v1, v2] := by cases args; simp_all
  obtain ⟨rfl, rfl⟩ := trodVars_none hV
  have lt0 : ∀ x ∈ p0, x.block < W.heap.size := by obtain ⟨m, hm⟩ := h0; exact DataW.trod_lt m _ _ _ hm
  have lt1 : ∀ x ∈ p1, x.block < W.heap.size := by obtain ⟨m, hm⟩ := h1; exact DataW.trod_lt m _ _ _ hm
  have lt2 : ∀ x ∈ p2, x.block < W.heap.size := by obtain ⟨m, hm⟩ := h2; exact DataW.trod_lt m _ _ _ hm
  obtain ⟨k, n, t, rfl⟩ := arg23 (hval 0 23 v0 rfl rfl) h0
  obtain ⟨now, rfl⟩ := okWide_int Try.underlying3 (hval 1 3 v1 rfl rfl)
  obtain ⟨A, c, l, rfl, hlc, hC, hbulk⟩ := arg24 (hval 2 24 v2 rfl rfl) h2
  have hkb : Rows.uptoBulkAll (([d0, d1, d2] : List (DataW H)) ++ []) ≤ 1048576 := of_decide_eq_true hk
  have hmu : muS mu33 l ≤ 1048576 := by
    simp only [List.append_nil, Rows.uptoBulkAll] at hkb
    omega
  have hparts := mu_parts hmu
  clear hA0 hval0
  have walk : Calls Try.prog 5 #[.agg #[.int .i64 k, .int .i64 n, .bool t], .int .i64 now, .slice A l.length c] W fun e w' => e = .returned (.bool true) ∧ Below W.heap.size W w' := by
    obtain ⟨r, hr1, hr2⟩ := check_same k n t
    by_cases hr : r = 0
    · subst hr
      by_cases hw : now < 0 ∨ 1152921504606846976 < now
      · exact plays_none k n t now 0 A l.length c W (fun u => new_late k n t now u hr1 hw) (fun u => xnew_late k n t now u hr2 hw) hr1 hr2
      · have hok := check_yes hr1
        unfold okS at hok
        exact plays_any k n t now A c l W hC hlc hparts.1 hparts.2 hr1 hr2 (by omega) (by omega) (by omega) (by omega)
    · exact plays_none k n t now r A l.length c W (fun u => new_none k n t now r u hr1 hr) (fun u => xnew_none k n t now r u hr2 hr) hr1 hr2
  refine walk.mono fun e W' ⟨he, bel⟩ => ?_
  subst he
  exact ⟨_, rfl, _, _, _, [], _, [], hW', trodAll_mk1 (shut_bool Try.underlying4 _), (trodAll_cons_mk (Below.trod laidOut (by kernel_rfl) (of_decide_eq_true (by kernel_rfl)) h0 bel lt0) (trodAll_cons_mk (Below.trod laidOut (by kernel_rfl) (of_decide_eq_true (by kernel_rfl)) h1 bel lt1) (trodAll_cons_mk (Below.trod laidOut (by kernel_rfl) (of_decide_eq_true (by kernel_rfl)) h2 bel lt2) trodAll_mk0))), rfl, bel.frame _, fun h => by cases h⟩
theorem proved : Rows.RatePlaysUptoSaid :=
  OpenClaim.holds_of_cond 5 Try.f5 rfl rfl rfl rfl rfl rfl rfl ⟨rfl, rfl, rfl, rfl, rfl⟩ rfl rfl rfl rfl rfl (by kernel_rfl) Try.func5 (by kernel_rfl)
    (of_decide_eq_true (by kernel_rfl)) (by unfold Func.isWrapper; first | (rw [if_pos (by decide +kernel)]; kernel_rfl) | (rw [if_neg (by decide +kernel)]; exact ⟨rfl, rfl⟩))
    (fun os started H enc _ F => lifted os started H enc F)
#print axioms proved
end Go.Proofs.Yteklabhmmfklbaa.ratePlays
namespace Go.Proofs.Yteklabhmmfklbaa
/-- The row, under a short name, for the claim. -/
theorem ratePlays_upto : Rows.RatePlaysUptoSaid := ratePlays.proved
end Go.Proofs.Yteklabhmmfklbaa
