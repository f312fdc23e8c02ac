import Derived.Test.YteklabhmmfklbaaEnd
namespace Go.Proofs.Yteklabhmmfklbaa
open Go.RowKit Print Go.Proofs.YteklabhmmfklbaaW.PrintWords Go.Proofs.YteklabhmmfklbaaW.PrintLast Go.Proofs.YteklabhmmfklbaaW.PrintMore
set_option linter.unusedVariables false
theorem one_row {w : World} {ok : Nat → Prop} {b : Nat} {t : Int} {v1 v2 : Value} {xs ys : List (List S68)} (hb : w.heap[b]? = some (.cells #[.int .i64 t, v1, v2] 43 (0, 0))) (h1 : kR.R 61 w 0 ok v1 xs) (h2 : kR.R 61 w 0 ok v2 ys) :
    ReadsRow (k43.M w 0 ok) 3 w (some ⟨b, 0, none⟩) 1 [(⟨t, ⟨xs, ys⟩⟩ : S43)] := by
  refine ⟨rfl, by omega, fun _ => ⟨_, rfl, fun j p hj => ?_⟩⟩
  rcases j with _ | j
  · simp only [List.getElem?_cons_zero, Option.some.injEq] at hj
    subst hj
    refine ⟨[.int .i64 t, v1, v2], rfl, k43_mkM w 0 ok ⟨t, ⟨xs, ys⟩⟩ h1 h2, fun i u hu => ?_⟩
    rw [add_plain, Nat.zero_mul, Nat.zero_add]
    refine (blk_cell hb i).trans ?_
    rcases i with _ | _ | _ | i
    · exact hu
    · exact hu
    · exact hu
    · simp at hu
  · simp at hj
theorem no_rows (w : World) (ok : Nat → Prop) : ReadsRow (k43.M w 0 ok) 3 w none 0 ([] : List S43) := ⟨rfl, by omega, fun h => by omega⟩
/-- What is told at an interval's end. -/
def endD (k at_ : Int) (rin rout all : List (List S68)) : List S43 :=
  if k = 1 ∨ k = 3 then (if rin.length + rout.length = 0 then [] else [⟨at_, ⟨rin, rout⟩⟩])
  else if k = 4 then (if all = [] then [] else [⟨at_, ⟨all, []⟩⟩]) else []
/-- Deliveries that are read; what they lead to is ok's. -/
def Tells (w : World) (ok : Nat → Prop) (v : Value) (l : List S43) : Prop := ∃ A c, v = .slice A l.length c ∧ l.length ≤ c ∧ ReadsRow (k43.M w 0 ok) 3 w A l.length l
def EndA (w : World) (g : Nat) (s : St) (l : List S43) (okS : Nat → Prop) (e : Ending) (w' : World) : Prop :=
  ∃ v, e = .returned v ∧ Tells w' (fun k => okS k ∨ w.heap.size ≤ k) v l ∧ At 59 w' g { s with told := false } nilV nilV ∧ K3 w w' (fun k => k = g)
theorem end_any (g : Nat) (s : St) (at_ : Int) (vi vo : Value) (rin rout : List (List S68)) (okS : Nat → Prop) (A : Option Addr) (c : Nat) (all : List (List S68)) (w : World) (hk : s.k = 1 ∨ s.k = 2 ∨ s.k = 3 ∨ s.k = 4)
    (h : At 59 w g s vi vo) (hi : kR.R 61 w 0 okS vi rin) (ho : kR.R 61 w 0 okS vo rout) (hg : ¬ okS g) (hsi : Sm rin) (hso : Sm rout) (ha : kR.C w A all.length all) (hc : all.length ≤ c) (hs : Sm all) :
    Calls Try.prog 30 #[.pointer (some ⟨g, 0, none⟩), .int .i64 at_, .slice A all.length c] w (EndA w g s (endD s.k at_ rin rout all) okS) := by
  have hgg : ∀ k, okS k → ¬ k = g := fun k hk e => hg (e ▸ hk)
  by_cases k13 : s.k = 1 ∨ s.k = 3
  · obtain ⟨A0, c0, rfl⟩ := Kd.R_slice hi
    obtain ⟨A1, c1, rfl⟩ := Kd.R_slice ho
    refine (end_tell g s at_ A0 rin.length c0 A1 rout.length c1 A all.length c w k13 h (by have := hsi.1; omega) (by have := hso.1; omega)).mono fun e w' ⟨hT, hK, hE⟩ => ?_
    have hi' := K3.R hi hK hgg
    have ho' := K3.R ho hK hgg
    unfold endD
    rw [if_pos k13]
    by_cases z : rin.length + rout.length = 0
    · rw [if_pos z]
      rw [if_neg (by rw [decide_eq_true_iff]; omega)] at hE
      exact ⟨_, hE, ⟨none, 0, rfl, Nat.le_refl _, no_rows _ _⟩, hT, hK⟩
    · rw [if_neg z]
      rw [if_pos (decide_eq_true (by omega))] at hE
      obtain ⟨b, hb, he, hbb⟩ := hE
      exact ⟨_, he, ⟨_, 1, rfl, Nat.le_refl _, one_row hbb (Kd.R_mono hi' (fun _ hk => .inl hk)) (Kd.R_mono ho' (fun _ hk => .inl hk))⟩, hT, hK⟩
  · by_cases k4 : s.k = 4
    · refine (end_snap g s at_ vi vo A c all w k4 h ha hc hs).mono fun e w' ⟨hT, hK, hE⟩ => ?_
      unfold endD
      rw [if_neg k13, if_pos k4]
      by_cases z : all = []
      · rw [if_pos z]
        rw [if_pos z] at hE
        exact ⟨_, hE, ⟨none, 0, rfl, Nat.le_refl _, no_rows _ _⟩, hT, hK⟩
      · rw [if_neg z]
        rw [if_neg z] at hE
        obtain ⟨b, v, hb, he, hbb, hR⟩ := hE
        exact ⟨_, he, ⟨_, 1, rfl, Nat.le_refl _, one_row hbb (Kd.R_mono hR (fun _ hk => .inr hk.1)) (Kd.R_nil _ _ _ _ _)⟩, hT, hK⟩
    · have k2 : s.k = 2 := by omega
      refine (end_none g s at_ vi vo A all.length c w k2 h).mono fun e w' ⟨hT, hK, hE⟩ => ?_
      unfold endD
      rw [if_neg k13, if_neg k4]
      rw [if_neg (by decide)] at hE
      exact ⟨_, hE, ⟨none, 0, rfl, Nat.le_refl _, no_rows _ _⟩, hT, hK⟩
end Go.Proofs.Yteklabhmmfklbaa
