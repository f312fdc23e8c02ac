import Derived.Test.YtnfaoofddokjgaaDoorOpenS
import Derived.Test.YtnfaoofddokjgaaDoorFind
import Derived.SizedLaws
namespace Go.Proofs.YtnfaoofddokjgaaDoor
open Go.WideShapes Go.RowKit Go.Deep
open Print Go.Proofs.YtnfaoofddokjgaaDoorW.PrintWords
set_option linter.unusedVariables false
/-- What reads as data of type t, none of its rows longer than an address reaches, is a value of kind k. -/
def OpensW {α : Type} (P : Program) (t : TypeId) (k : Kd α) (good : α → Prop) : Prop :=
  ∀ (H : Type) (enc : TypeId × Value → H) (w : World) (base : Nat) (spare : Nat → Bool) (held : Bool) (fuel : Nat) (cs : List Value) (x : DataW H × List MemPlace),
    DataW.trod enc P w base spare held fuel t cs = some x → (∀ n ∈ x.1.weights P t, n ≤ reachBytes) → ∃ a, k.K w a cs ∧ good a
section
variable {P : Program} {α β : Type}
theorem OpensW.of {t : TypeId} {k : Kd α} {g : α → Prop} (h : Opens P t k g) : OpensW P t k g := fun H enc w base spare held fuel cs x hx _ => h H enc w base spare held fuel cs x hx
theorem OpensW.mono {t : TypeId} {k : Kd α} {g g' : α → Prop} (h : OpensW P t k g) (hg : ∀ a, g a → g' a) : OpensW P t k g' := by
  intro H enc w base spare held fuel cs x hx hw
  obtain ⟨a, ha, hga⟩ := h H enc w base spare held fuel cs x hx hw
  exact ⟨a, ha, hg a hga⟩
theorem weightsAll_mem {H : Type} {e : TypeId} : ∀ {l : List (DataW H)} {d : DataW H}, d ∈ l → ∀ n ∈ d.weights P e, n ∈ DataW.weightsAll P e l
  | [], _, h, _, _ => by cases h
  | a :: l, d, h, n, hn => by
    simp only [DataW.weightsAll, List.mem_append]
    rcases List.mem_cons.1 h with rfl | h
    · exact .inl hn
    · exact .inr (weightsAll_mem h n hn)
theorem OpensW.slice {t e : TypeId} {k : Kd α} {g : α → Prop} (ht : P.underlying t = some (.slice e)) (hc : P.cellsOf e = k.sz) (h : OpensW P e k g) : OpensW P t (Kd.slice e k) (fun xs => xs.length * P.bytesOf e ≤ reachBytes ∧ ∀ x ∈ xs, g x) := by
  intro H enc w base spare held fuel cs x hx hw
  rcases open_slice ht hx with ⟨rfl, rfl⟩ | ⟨a, len, cap, m, n, D, Pl, rfl, hb, hl, hm, hmm, rfl, hel⟩
  · exact ⟨[], ⟨none, 0, rfl, Nat.le_refl _, by simp, by simp, fun h => absurd h (by simp)⟩, by simp, fun x hx => by simp at hx⟩
  · have hlm : len ≤ m := by rw [hmm]; split <;> omega
    simp only [DataW.weights, ht] at hw
    have hlen : len * P.bytesOf e ≤ reachBytes := by
      have h1 := hw _ (List.mem_cons_self ..)
      simp only [List.length_map, List.length_range] at h1
      exact Nat.le_trans (Nat.mul_le_mul_right _ (by omega)) h1
    have key : ∀ i, i < len → ∃ y, g y ∧ ∃ c, c.length = k.sz ∧ k.K w y c ∧ ∀ j u, c[j]? = some u → w.cell? (a.add (i * k.sz + j)) = some u := by
      intro i hi
      obtain ⟨cs', h1, h2⟩ := hel i (by omega)
      obtain ⟨y, hy, hgy⟩ := h H enc w base spare held n cs' _ h2 (fun q hq => hw q (List.mem_cons_of_mem _ (List.mem_append.2 (.inl (weightsAll_mem (List.mem_map.2 ⟨i, List.mem_range.2 hi, rfl⟩) q hq)))))
      obtain ⟨_, hlen, hcell⟩ := World.cells?_some h1
      rw [hc] at hlen h1
      refine ⟨y, hgy, cs', hlen, hy, fun j u hu => ?_⟩
      have hj : j < cs'.length := by
        rcases Nat.lt_or_ge j cs'.length with hj | hj
        · exact hj
        · rw [List.getElem?_eq_none hj] at hu; cases hu
      have := hcell j (by rw [hc]; omega)
      rw [hc] at this
      rw [Deep.add_add] at this
      rw [this]
      exact hu
    by_cases h0 : 0 < len
    · obtain ⟨y0, _⟩ := key 0 h0
      have : Inhabited α := ⟨y0⟩
      obtain ⟨F, hF⟩ := choose_lt (α := α) key
      refine ⟨(List.range len).map F, ⟨some a, cap, by simp, by simpa using hl, by simp, by simp [maxLen] at hm ⊢; omega, fun _ => ⟨a, rfl, fun j p hp => ?_⟩⟩, by simpa using hlen, ?_⟩
      · have hj : j < len := by
          rcases Nat.lt_or_ge j len with hj | hj
          · exact hj
          · rw [List.getElem?_eq_none (by simpa using hj)] at hp; cases hp
        rw [List.getElem?_map, List.getElem?_range hj] at hp
        obtain rfl := Option.some.inj hp
        exact (hF j hj).2
      · intro x hx
        obtain ⟨i, hi, rfl⟩ := List.mem_map.1 hx
        exact (hF i (List.mem_range.1 hi)).1
    · obtain rfl : len = 0 := by omega
      exact ⟨[], ⟨some a, cap, rfl, by simp, by simp, by simp, fun h => absurd h (by simp)⟩, by simp, fun x hx => by simp at hx⟩
def OpensFsW {α : Type} (P : Program) (fs : List Field) (off : Nat) (k : Kd α) (good : α → Prop) : Prop :=
  ∀ (H : Type) (enc : TypeId × Value → H) (w : World) (base : Nat) (spare : Nat → Bool) (held : Bool) (fuel : Nat) (cs : List Value) (xs : List (DataW H × List MemPlace)),
    cs.length = off + k.sz → (fs.mapM fun f => DataW.trod enc P w base spare held fuel f.type ((cs.drop f.offset).take (P.cellsOf f.type))) = some xs → (∀ n ∈ DataW.weightsEach P (fs.map (·.type)) (xs.map (·.1)), n ≤ reachBytes) → ∃ a, k.K w a (cs.drop off) ∧ good a
theorem OpensFsW.one {f : Field} {off : Nat} {k : Kd α} {g : α → Prop} (ho : f.offset = off) (hc : P.cellsOf f.type = k.sz) (h : OpensW P f.type k g) : OpensFsW P [f] off k g := by
  intro H enc w base spare held fuel cs xs hl hx hw
  have h0 : (cs.drop off).take k.sz = cs.drop off := List.take_of_length_le (by rw [List.length_drop]; omega)
  rw [List.mapM_cons] at hx
  cases ht : DataW.trod enc P w base spare held fuel f.type ((cs.drop f.offset).take (P.cellsOf f.type)) with
  | none => rw [ht] at hx; simp at hx
  | some y =>
    rw [ht] at hx
    have hxs : [y] = xs := by simpa using hx
    subst hxs
    rw [ho, hc, h0] at ht
    exact h H enc w base spare held fuel _ y ht (fun n hn => hw n (by simp only [List.map_cons, List.map_nil, DataW.weightsEach, List.append_nil]; exact hn))
theorem OpensFsW.cons {f : Field} {fs : List Field} {off : Nat} {k : Kd α} {l : Kd β} {g : α → Prop} {g' : β → Prop} (ho : f.offset = off) (hc : P.cellsOf f.type = k.sz) (h : OpensW P f.type k g) (hr : OpensFsW P fs (off + k.sz) l g') :
    OpensFsW P (f :: fs) off (Kd.pair k l) (fun p => g p.1 ∧ g' p.2) := by
  intro H enc w base spare held fuel cs xs hl hx hw
  have hl' : cs.length = off + (k.sz + l.sz) := hl
  rw [List.mapM_cons] at hx
  cases ht : DataW.trod enc P w base spare held fuel f.type ((cs.drop f.offset).take (P.cellsOf f.type)) with
  | none => rw [ht] at hx; simp at hx
  | some y =>
    cases hs : (fs.mapM fun f => DataW.trod enc P w base spare held fuel f.type ((cs.drop f.offset).take (P.cellsOf f.type))) with
    | none => rw [ht, hs] at hx; simp at hx
    | some ys =>
      rw [ht, hs] at hx
      have hxs : y :: ys = xs := by simpa using hx
      subst hxs
      rw [ho, hc] at ht
      simp only [List.map_cons, DataW.weightsEach, List.mem_append] at hw
      obtain ⟨a, ha, hga⟩ := h H enc w base spare held fuel _ y ht (fun n hn => hw n (.inl hn))
      obtain ⟨b, hb, hgb⟩ := hr H enc w base spare held fuel cs ys (by omega) hs (fun n hn => hw n (.inr hn))
      refine ⟨(a, b), ⟨_, _, ?_, ha, hb⟩, hga, hgb⟩
      rw [← List.drop_drop, List.take_append_drop]
theorem OpensW.struct {t : TypeId} {fs : Array Field} {k : Kd α} {g : α → Prop} (ht : P.underlying t = some (.struct fs)) {L : List Field} (hL : fs.toList = L) (hc : P.cellsOf t = k.sz) (h : OpensFsW P L 0 k g) : OpensW P t k g := by
  subst hL
  intro H enc w base spare held fuel cs x hx hw
  obtain _ | fuel := fuel
  · simp [DataW.trod] at hx
  · simp only [DataW.trod, ht] at hx
    split at hx
    · rename_i hl
      obtain ⟨xs, hxs, rfl⟩ := Option.map_eq_some_iff.1 hx
      simp only [DataW.weights, ht] at hw
      obtain ⟨a, ha, hga⟩ := h H enc w base spare held fuel cs xs (by rw [hl, hc]; omega) hxs hw
      exact ⟨a, by simpa using ha, hga⟩
    · cases hx
end
theorem opensW24 : OpensW Tryd.prog 24 k24 (fun p => p.2.length < 5864062014805) :=
  (OpensW.struct Tryd.underlying24 rfl (by kernel_rfl) (OpensFsW.cons rfl (by kernel_rfl) (OpensW.of (Opens.string Tryd.underlying9)) (OpensFsW.one rfl (by kernel_rfl) (OpensW.slice Tryd.underlying22 (by kernel_rfl) (OpensW.of opens40))))).mono (fun p h => by
    have h1 := h.2.1
    have h2 : Tryd.prog.bytesOf 40 = 24 := by kernel_rfl
    rw [h2] at h1
    have h3 : reachBytes = 140737488351232 := by decide
    omega)
theorem opensW46 : OpensW Tryd.prog 46 (Kd.slice 24 k24) (fun l => ∀ x ∈ l, x.2.length < 5864062014805) := (OpensW.slice Tryd.underlying46 (by kernel_rfl) opensW24).mono (fun _ h => h.2)
theorem arg46 {H : Type} {enc : TypeId × Value → H} {W : World} {base b0 : Nat} {sp : Nat → Bool} {held : Bool} {v : Value} {d : DataW H} {p : List MemPlace} (hv : Value.okWide Tryd.prog W .any base 46 v) (h : DataW.Trod enc Tryd.prog W b0 sp held 46 v d p) (hw : ∀ n ∈ d.weights Tryd.prog 46, n ≤ reachBytes) :
    ∃ A c l, v = .slice A (List.length l) c ∧ l.length ≤ c ∧ Kd.C k24 W A l.length l ∧ ∀ x ∈ l, x.2.length < 5864062014805 := by
  obtain ⟨a, len, cap, rfl⟩ := okWide_slice Tryd.underlying46 hv
  obtain ⟨m, hm⟩ := h
  obtain ⟨l, ⟨A, c, he, hl, hC⟩, hg⟩ := opensW46 H enc W b0 sp held m _ _ hm hw
  simp only [Value.cells, List.cons.injEq, and_true] at he
  exact ⟨A, c, l, he, hl, hC, hg⟩
theorem opens48 : Opens Tryd.prog 48 (Kd.pair Kd.string (Kd.slice 38 k38)) (fun p => p.2.length ≤ maxLen ∧ ∀ x ∈ p.2, good38 x) :=
  (Opens.struct Tryd.underlying48 rfl (by kernel_rfl) (OpensFs.cons rfl (by kernel_rfl) (Opens.string Tryd.underlying9) (OpensFs.one rfl (by kernel_rfl) opens33))).mono (fun _ h => h.2)
theorem arg48 {H : Type} {enc : TypeId × Value → H} {W : World} {base b0 : Nat} {sp : Nat → Bool} {held : Bool} {v : Value} {d : DataW H} {p : List MemPlace} (hv : Value.okWide Tryd.prog W .any base 48 v) (h : DataW.Trod enc Tryd.prog W b0 sp held 48 v d p) :
    ∃ s A c l, v = .agg #[.string s, .slice A l.length c] ∧ l.length ≤ c ∧ Kd.C k38 W A l.length l ∧ l.length ≤ maxLen ∧ ∀ x ∈ l, good38 x := by
  obtain ⟨cs, rfl, hsz⟩ := okWide_struct Tryd.underlying48 hv
  obtain ⟨m, hm⟩ := h
  obtain ⟨l, ⟨c0, c1, he, h0, A, c, h1, hl, hC⟩, hg⟩ := opens48 H enc W b0 sp held m _ _ hm
  refine ⟨l.1, A, c, l.2, ?_, hl, hC, hg⟩
  have h0' : c0 = [.string l.1] := h0
  have he' : cs.toList = c0 ++ c1 := he
  rw [h0', h1] at he'
  have : cs = #[.string l.1, .slice A l.2.length c] := by apply Array.toList_inj.1; rw [he']; rfl
  rw [this]
end Go.Proofs.YtnfaoofddokjgaaDoor
