import Derived.Test.YtiabggpijomjmaaDoorWWords
import Derived.Deep.Slices
import Derived.WideShapes
namespace Go.Proofs.YtiabggpijomjmaaDoor
open Go.RowKit Go.Deep Go.Proofs.YtiabggpijomjmaaDoorW.PrintWords
/-- What reads as data of type t is a value of kind k. -/
def Opens {α : Type} (P : Program) (t : TypeId) (k : Kd α) (good : α → Prop) : Prop :=
  ∀ (H : Type) (enc : TypeId × Value → H) (w : World) (base : Nat) (spare : Nat → Bool) (held : Bool) (fuel : Nat) (cs : List Value) (x : DataW H × List MemPlace),
    DataW.trod enc P w base spare held fuel t cs = some x → ∃ a, k.K w a cs ∧ good a
section
variable {P : Program} {α β : Type}
theorem Opens.mono {t : TypeId} {k : Kd α} {g g' : α → Prop} (h : Opens P t k g) (hg : ∀ a, g a → g' a) : Opens P t k g' := by
  intro H enc w base spare held fuel cs x hx
  obtain ⟨a, ha, hga⟩ := h H enc w base spare held fuel cs x hx
  exact ⟨a, ha, hg a hga⟩
theorem Opens.int {t : TypeId} {k : IntKind} (ht : P.underlying t = some (.int k)) : Opens P t (Kd.int k) (fun z => (Lit.int k z).wf = true) := by
  intro H enc w base spare held fuel cs x hx
  obtain ⟨n, rfl, _, hw⟩ := DataW.trod_int ht hx
  exact ⟨n, rfl, hw⟩
theorem Opens.bool {t : TypeId} (ht : P.underlying t = some .bool) : Opens P t Kd.bool (fun _ => True) := by
  intro H enc w base spare held fuel cs x hx
  obtain ⟨n, rfl, _⟩ := DataW.trod_bool ht hx
  exact ⟨n, rfl, trivial⟩
theorem Opens.string {t : TypeId} (ht : P.underlying t = some .string) : Opens P t Kd.string (fun s => s.size ≤ maxLen) := by
  intro H enc w base spare held fuel cs x hx
  obtain ⟨n, rfl, _, hw⟩ := DataW.trod_string ht hx
  exact ⟨n, rfl, hw⟩
theorem Opens.iso {t : TypeId} {k : Kd α} {g : α → Prop} (h : Opens P t k g) (f : β → α) (b : α → β) (hfb : ∀ a, f (b a) = a) : Opens P t (Kd.iso k f) (fun y => g (f y)) := by
  intro H enc w base spare held fuel cs x hx
  obtain ⟨a, ha, hga⟩ := h H enc w base spare held fuel cs x hx
  exact ⟨b a, by show k.K w (f (b a)) cs; rw [hfb]; exact ha, by show g (f (b a)); rw [hfb]; exact hga⟩
theorem Opens.slice {t e : TypeId} {k : Kd α} {g : α → Prop} (ht : P.underlying t = some (.slice e)) (hc : P.cellsOf e = k.sz) (h : Opens P e k g) : Opens P t (Kd.slice e k) (fun xs => xs.length ≤ maxLen ∧ ∀ x ∈ xs, g x) := by
  intro H enc w base spare held fuel cs x hx
  rcases open_slice ht hx with ⟨rfl, _⟩ | ⟨a, len, cap, m, n, D, Pl, rfl, hb, hl, hm, hmm, _, hel⟩
  · exact ⟨[], ⟨none, 0, rfl, Nat.le_refl _, by simp, by simp, fun h => absurd h (by simp)⟩, by simp [maxLen], fun x hx => by simp at hx⟩
  · have hlm : len ≤ m := by rw [hmm]; split <;> omega
    have key : ∀ i, i < len → ∃ y, g y ∧ ∃ c, c.length = k.sz ∧ k.K w y c ∧ ∀ j u, c[j]? = some u → w.cell? (a.add (i * k.sz + j)) = some u := by
      intro i hi
      obtain ⟨cs', h1, h2⟩ := hel i (by omega)
      obtain ⟨y, hy, hgy⟩ := h H enc w base spare held n cs' _ h2
      obtain ⟨_, hlen, hcell⟩ := World.cells?_some h1
      rw [hc] at hlen h1
      refine ⟨y, hgy, cs', hlen, hy, fun j u hu => ?_⟩
      have hj : j < cs'.length := by
        rcases Nat.lt_or_ge j cs'.length with hj | hj
        · exact hj
        · rw [List.getElem?_eq_none hj] at hu; cases hu
      have := hcell j (by rw [hc]; omega)
      rw [hc] at this
      rw [Deep.add_add] at this
      rw [this]
      exact hu
    by_cases h0 : 0 < len
    · obtain ⟨y0, _⟩ := key 0 h0
      have : Inhabited α := ⟨y0⟩
      obtain ⟨F, hF⟩ := choose_lt (α := α) key
      refine ⟨(List.range len).map F, ⟨some a, cap, by simp, by simpa using hl, by simp, by simp [maxLen] at hm ⊢; omega, fun _ => ⟨a, rfl, fun j p hp => ?_⟩⟩, by simpa using Nat.le_trans hl hm, ?_⟩
      · have hj : j < len := by
          rcases Nat.lt_or_ge j len with hj | hj
          · exact hj
          · rw [List.getElem?_eq_none (by simpa using hj)] at hp; cases hp
        rw [List.getElem?_map, List.getElem?_range hj] at hp
        obtain rfl := Option.some.inj hp
        exact (hF j hj).2
      · intro x hx
        obtain ⟨i, hi, rfl⟩ := List.mem_map.1 hx
        exact (hF i (List.mem_range.1 hi)).1
    · obtain rfl : len = 0 := by omega
      exact ⟨[], ⟨some a, cap, rfl, by simp, by simp, by simp, fun h => absurd h (by simp)⟩, by simp [maxLen], fun x hx => by simp at hx⟩
/-- The fields from place off on. -/
def OpensFs {α : Type} (P : Program) (fs : List Field) (off : Nat) (k : Kd α) (good : α → Prop) : Prop :=
  ∀ (H : Type) (enc : TypeId × Value → H) (w : World) (base : Nat) (spare : Nat → Bool) (held : Bool) (fuel : Nat) (cs : List Value) (xs : List (DataW H × List MemPlace)),
    cs.length = off + k.sz → (fs.mapM fun f => DataW.trod enc P w base spare held fuel f.type ((cs.drop f.offset).take (P.cellsOf f.type))) = some xs → ∃ a, k.K w a (cs.drop off) ∧ good a
theorem OpensFs.one {f : Field} {off : Nat} {k : Kd α} {g : α → Prop} (ho : f.offset = off) (hc : P.cellsOf f.type = k.sz) (h : Opens P f.type k g) : OpensFs P [f] off k g := by
  intro H enc w base spare held fuel cs xs hl hx
  have h0 : (cs.drop off).take k.sz = cs.drop off := List.take_of_length_le (by rw [List.length_drop]; omega)
  rw [List.mapM_cons] at hx
  cases ht : DataW.trod enc P w base spare held fuel f.type ((cs.drop f.offset).take (P.cellsOf f.type)) with
  | none => rw [ht] at hx; simp at hx
  | some y =>
    rw [ho, hc, h0] at ht
    exact h H enc w base spare held fuel _ y ht
theorem OpensFs.cons {f : Field} {fs : List Field} {off : Nat} {k : Kd α} {l : Kd β} {g : α → Prop} {g' : β → Prop} (ho : f.offset = off) (hc : P.cellsOf f.type = k.sz) (h : Opens P f.type k g) (hr : OpensFs P fs (off + k.sz) l g') :
    OpensFs P (f :: fs) off (Kd.pair k l) (fun p => g p.1 ∧ g' p.2) := by
  intro H enc w base spare held fuel cs xs hl hx
  have hl' : cs.length = off + (k.sz + l.sz) := hl
  rw [List.mapM_cons] at hx
  cases ht : DataW.trod enc P w base spare held fuel f.type ((cs.drop f.offset).take (P.cellsOf f.type)) with
  | none => rw [ht] at hx; simp at hx
  | some y =>
    cases hs : (fs.mapM fun f => DataW.trod enc P w base spare held fuel f.type ((cs.drop f.offset).take (P.cellsOf f.type))) with
    | none => rw [ht, hs] at hx; simp at hx
    | some ys =>
      rw [ho, hc] at ht
      obtain ⟨a, ha, hga⟩ := h H enc w base spare held fuel _ y ht
      obtain ⟨b, hb, hgb⟩ := hr H enc w base spare held fuel cs ys (by omega) hs
      refine ⟨(a, b), ⟨_, _, ?_, ha, hb⟩, hga, hgb⟩
      rw [← List.drop_drop, List.take_append_drop]
theorem Opens.struct {t : TypeId} {fs : Array Field} {k : Kd α} {g : α → Prop} (ht : P.underlying t = some (.struct fs)) {L : List Field} (hL : fs.toList = L) (hc : P.cellsOf t = k.sz) (h : OpensFs P L 0 k g) : Opens P t k g := by
  subst hL
  intro H enc w base spare held fuel cs x hx
  obtain _ | fuel := fuel
  · simp [DataW.trod] at hx
  · simp only [DataW.trod, ht] at hx
    split at hx
    · rename_i hl
      obtain ⟨xs, hxs, _⟩ := Option.map_eq_some_iff.1 hx
      obtain ⟨a, ha, hga⟩ := h H enc w base spare held fuel cs xs (by rw [hl, hc]; omega) hxs
      exact ⟨a, by simpa using ha, hga⟩
    · cases hx
theorem Opens.array2 {t e : TypeId} {k : Kd α} {g : α → Prop} (ht : P.underlying t = some (.array 2 e)) (he : P.cellsOf e = k.sz) (hc : P.cellsOf t = k.sz + k.sz) (h : Opens P e k g) : Opens P t (Kd.pair k k) (fun p => g p.1 ∧ g p.2) := by
  intro H enc w base spare held fuel cs x hx
  obtain _ | fuel := fuel
  · simp [DataW.trod] at hx
  · simp only [DataW.trod, ht] at hx
    split at hx
    · rename_i hl
      obtain ⟨xs, hxs, _⟩ := Option.map_eq_some_iff.1 hx
      rw [show List.range 2 = [0, 1] from rfl, List.mapM_cons] at hxs
      cases h0 : DataW.trod enc P w base spare held fuel e ((cs.drop (0 * P.cellsOf e)).take (P.cellsOf e)) with
      | none => rw [h0] at hxs; simp at hxs
      | some y0 =>
        cases h1 : DataW.trod enc P w base spare held fuel e ((cs.drop (1 * P.cellsOf e)).take (P.cellsOf e)) with
        | none => rw [h0, List.mapM_cons, h1] at hxs; simp at hxs
        | some y1 =>
          rw [he] at h0 h1
          obtain ⟨a, ha, hga⟩ := h H enc w base spare held fuel _ y0 h0
          obtain ⟨b, hb, hgb⟩ := h H enc w base spare held fuel _ y1 h1
          refine ⟨(a, b), ⟨_, _, ?_, ha, hb⟩, hga, hgb⟩
          rw [Nat.zero_mul, List.drop_zero, Nat.one_mul, List.take_of_length_le (l := List.drop k.sz cs) (by rw [List.length_drop, hl, hc]; omega), List.take_append_drop]
    · cases hx
end
end Go.Proofs.YtiabggpijomjmaaDoor
