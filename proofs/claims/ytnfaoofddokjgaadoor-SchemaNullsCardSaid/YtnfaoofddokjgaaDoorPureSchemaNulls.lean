import Derived.Test.YtnfaoofddokjgaaDoorPlFits
import Derived.Test.YtnfaoofddokjgaaDoorPx12
namespace Go.Proofs.YtnfaoofddokjgaaDoor
open Go.RowKit Print Go.Proofs.YtnfaoofddokjgaaDoorW.PrintWords
theorem ev_pos {α : Type} {c : Prop} [Decidable c] {f g : Nat → Option α} {r : α} (h : c) (k : Ev f r) : Ev (fun n => if c then f n else g n) r := Ev.congr (fun _ => if_pos h) k
theorem ev_neg {α : Type} {c : Prop} [Decidable c] {f g : Nat → Option α} {r : α} (h : ¬ c) (k : Ev g r) : Ev (fun n => if c then f n else g n) r := Ev.congr (fun _ => if_neg h) k
theorem nulls_fit (l : List S40) (n : Nat) (hn : n = l.length) : fitsV l (List.replicate n z38) = 0 := by
  unfold fitsV fitsFrom
  rw [if_pos (by rw [List.length_replicate, hn]), if_pos]
  intro j _ hj
  have e : rd_T38 (List.replicate n z38) (j : Int) = z38 := by
    unfold rd_T38
    rw [List.getD_eq_getElem?_getD, Int.toNat_natCast, List.getElem?_replicate]
    split <;> rfl
  rw [e]
  exact ⟨by kernel_rfl, .inl rfl⟩
theorem other_not (l : List S40) (r : List S38) (i : Int) (h0 : 0 ≤ i) (hi : i < r.length) (x : S38) (h1 : x.f0 ≠ 0) (h2 : x.f0 ≠ (rd_T40 l i).f1) : fitsV l (r.set i.toNat x) = 31 := by
  unfold fitsV
  by_cases c : (r.set i.toNat x).length = l.length
  · rw [if_pos c]
    unfold fitsFrom
    refine if_neg fun h => ?_
    have hj := (h i.toNat (Nat.zero_le _) (by rw [List.length_set]; omega)).2
    have e : rd_T38 (r.set i.toNat x) (i.toNat : Int) = x := by
      unfold rd_T38
      rw [List.getD_eq_getElem?_getD, Int.toNat_natCast, List.getElem?_set_self (by omega)]
      rfl
    rw [e, Int.toNat_of_nonneg h0] at hj
    exact hj.elim h1 h2
  · rw [if_neg c]
theorem good_set {r : List S38} (hr : r.length ≤ maxLen ∧ ∀ x ∈ r, good38 x) (i : Nat) {y : S38} (hy : good38 y) : (r.set i y).length ≤ maxLen ∧ ∀ x ∈ r.set i y, good38 x := by
  refine ⟨by rw [List.length_set]; exact hr.1, fun x hx => ?_⟩
  rcases List.mem_or_eq_of_mem_set hx with h | rfl
  · exact hr.2 x h
  · exact hy
theorem SchemaNulls_pure (s : ByteArray) (l : List S40) (r : List S38) (a : Int) (hr : r.length ≤ maxLen ∧ ∀ x ∈ r, good38 x) (hr2 : r.length < 4398046511104) : ∃ k, marqueelaw03_SchemaNulls.f k s l r a = some true := by
  refine Ev.rounds ?_
  unfold marqueelaw03_SchemaNulls.f
  simp only [List.nil_append, List.length_nil, Nat.zero_add, Option.bind_some]
  by_cases h0 : (l.length : Int) > 1000
  · exact ev_pos h0 (Ev.bind awake_ev (Ev.now _))
  have hlen : l.length ≤ 1000 := by omega
  refine ev_neg h0 (ev_pos (by omega) (ev_pos (by omega) ?_))
  have h1 := sFits_ev s l (List.replicate ((l.length : Int)).toNat z38) ⟨by simp [maxLen]; omega, fun x hx => by rw [(List.mem_replicate.1 hx).2]; exact ⟨rfl, rfl, by decide⟩⟩
  rw [nulls_fit l _ (by omega)] at h1
  refine Ev.bind h1 (ev_pos rfl ?_)
  refine Ev.bind (sFits_ev s l r hr) ?_
  by_cases hf : fitsV l r = 0
  · refine ev_pos hf (ev_pos hr2 (ev_pos hr2 ?_))
    have hlr : r.length = l.length := by
      by_cases c : r.length = l.length
      · exact c
      · unfold fitsV at hf
        rw [if_neg c] at hf
        exact absurd hf (by decide)
    have h3 := sFits_ev s l (r ++ [(⟨0, 0, (⟨#[]⟩ : ByteArray)⟩ : S38)]) ⟨by rw [List.length_append]; simp [maxLen]; omega, fun x hx => by
      rcases List.mem_append.1 hx with h | h
      · exact hr.2 x h
      · rw [List.mem_singleton.1 h]; exact ⟨rfl, rfl, by decide⟩⟩
    rw [show fitsV l (r ++ [(⟨0, 0, (⟨#[]⟩ : ByteArray)⟩ : S38)]) = 31 by unfold fitsV; exact if_neg (by rw [List.length_append]; simp; omega)] at h3
    refine Ev.bind h3 (ev_pos rfl ?_)
    by_cases hz : (r.length : Int) = 0
    · exact ev_pos hz (Ev.bind awake_ev (Ev.now _))
    refine ev_neg hz ?_
    have hA : 0 ≤ Int.tmod (wrap64 (Int.tmod a (r.length : Int) + (r.length : Int))) (r.length : Int) ∧ Int.tmod (wrap64 (Int.tmod a (r.length : Int) + (r.length : Int))) (r.length : Int) < (r.length : Int) := by
      have hn : 0 < (r.length : Int) := by omega
      have b1 : Int.tmod a (r.length : Int) < (r.length : Int) := Int.tmod_lt_of_pos a hn
      have b2 : -(r.length : Int) < Int.tmod a (r.length : Int) := by
        have := Int.tmod_lt_of_pos (-a) hn
        rw [Int.neg_tmod] at this
        omega
      generalize Int.tmod a (r.length : Int) = t at b1 b2 ⊢
      have e : wrap64 (t + (r.length : Int)) = t + (r.length : Int) := w64 (by omega) (by omega)
      rw [e]
      exact ⟨Int.tmod_nonneg _ (by omega), Int.tmod_lt_of_pos _ hn⟩
    generalize Int.tmod (wrap64 (Int.tmod a (r.length : Int) + (r.length : Int))) (r.length : Int) = A at hA ⊢
    obtain ⟨hA0, hA1⟩ := hA
    refine ev_pos hA0 (ev_pos (by omega) (ev_pos hA1 ?_))
    by_cases hk : (rd_T40 l A).f1 = 1
    · refine ev_pos hk ?_
      have h4 := sFits_ev s l ((r.set A.toNat (⟨1, 1, (⟨#[]⟩ : ByteArray)⟩ : S38)).set A.toNat (⟨2, 1, (⟨#[]⟩ : ByteArray)⟩ : S38)) (good_set (good_set hr _ ⟨rfl, rfl, by decide⟩) _ ⟨rfl, rfl, by decide⟩)
      rw [other_not l _ A hA0 (by rw [List.length_set]; exact hA1) _ (by decide) (by rw [hk]; decide)] at h4
      exact Ev.bind h4 (ev_pos rfl (Ev.bind awake_ev (Ev.now _)))
    · refine ev_neg hk ?_
      have h4 := sFits_ev s l (r.set A.toNat (⟨1, 1, (⟨#[]⟩ : ByteArray)⟩ : S38)) (good_set hr _ ⟨rfl, rfl, by decide⟩)
      rw [other_not l r A hA0 hA1 _ (by decide) (fun h => hk h.symm)] at h4
      exact Ev.bind h4 (ev_pos rfl (Ev.bind awake_ev (Ev.now _)))
  · exact ev_neg hf (Ev.bind (rFits_ev s l r hr) (ev_neg hf (Ev.bind awake_ev (Ev.now _))))
end Go.Proofs.YtnfaoofddokjgaaDoor
