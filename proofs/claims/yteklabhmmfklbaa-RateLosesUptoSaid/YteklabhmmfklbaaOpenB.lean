import Derived.Test.YteklabhmmfklbaaRows
import Derived.Test.YteklabhmmfklbaaOpenR
namespace Go.Proofs.Yteklabhmmfklbaa
open Go.ChangeShapes Go.WideShapes Go.ChangeAt Go.RowKit Go.Deep Print
open Go.Proofs.YteklabhmmfklbaaW.PrintWords
set_option linter.unusedVariables false
/-- What reads as data of type t is a value of kind k, and its measure is less than the reading's bulk. -/
def OpensB {α : Type} (P : Program) (t : TypeId) (k : Kd α) (mu : α → Nat) : Prop :=
  ∀ (H : Type) (enc : TypeId × Value → H) (w : World) (base : Nat) (spare : Nat → Bool) (held : Bool) (fuel : Nat) (cs : List Value) (x : DataW H × List MemPlace),
    DataW.trod enc P w base spare held fuel t cs = some x → ∃ a, k.K w a cs ∧ mu a + 1 ≤ Rows.uptoBulk x.1
section
variable {P : Program} {α β : Type}
theorem bulk_one {H : Type} (d : DataW H) : 1 ≤ Rows.uptoBulk d := by
  cases d with
  | lit l => cases l <;> simp [Rows.uptoBulk]
  | nil => simp [Rows.uptoBulk]
  | ptr d => simp [Rows.uptoBulk]
  | slice elems spare => simp [Rows.uptoBulk]
  | agg parts => simp [Rows.uptoBulk]
  | iface t d => simp [Rows.uptoBulk]
  | map entries => simp [Rows.uptoBulk]
  | held h => simp [Rows.uptoBulk]
theorem OpensB.leaf {t : TypeId} {k : Kd α} {g : α → Prop} (h : Opens P t k g) : OpensB P t k (fun _ => 0) := by
  intro H enc w base spare held fuel cs x hx
  obtain ⟨a, ha, _⟩ := h H enc w base spare held fuel cs x hx
  exact ⟨a, ha, by have := bulk_one x.1; omega⟩
theorem OpensB.iso {t : TypeId} {k : Kd α} {mu : α → Nat} (h : OpensB P t k mu) (f : β → α) (b : α → β) (hfb : ∀ a, f (b a) = a) : OpensB P t (Kd.iso k f) (fun y => mu (f y)) := by
  intro H enc w base spare held fuel cs x hx
  obtain ⟨a, ha, hga⟩ := h H enc w base spare held fuel cs x hx
  exact ⟨b a, by show k.K w (f (b a)) cs; rw [hfb]; exact ha, by show mu (f (b a)) + 1 ≤ _; rw [hfb]; exact hga⟩
theorem sum_le_bulk {H : Type} {mu : Nat → Nat} {D : Nat → DataW H} (n : Nat) (h : ∀ i, i < n → mu i + 1 ≤ Rows.uptoBulk (D i)) : ((List.range n).map mu).sum + n ≤ Rows.uptoBulkAll ((List.range n).map D) := by
  have key : ∀ l : List Nat, (∀ i ∈ l, mu i + 1 ≤ Rows.uptoBulk (D i)) → (l.map mu).sum + l.length ≤ Rows.uptoBulkAll (l.map D) := by
    intro l
    induction l with
    | nil => intro _; simp [Rows.uptoBulkAll]
    | cons i l ih =>
      intro hl
      have h1 := hl i (List.mem_cons_self ..)
      have h2 := ih (fun j hj => hl j (List.mem_cons_of_mem _ hj))
      simp only [List.map_cons, List.sum_cons, List.length_cons, Rows.uptoBulkAll]
      omega
  have := key (List.range n) (fun i hi => h i (List.mem_range.1 hi))
  rwa [List.length_range] at this
/-- A row's measure: its elements', and how many there are. -/
def muS (mu : α → Nat) (xs : List α) : Nat := (xs.map mu).sum + xs.length
theorem OpensB.slice {t e : TypeId} {k : Kd α} {mu : α → Nat} (ht : P.underlying t = some (.slice e)) (hc : P.cellsOf e = k.sz) (h : OpensB P e k mu) : OpensB P t (Kd.slice e k) (muS mu) := by
  intro H enc w base spare held fuel cs x hx
  rcases open_slice ht hx with ⟨rfl, rfl⟩ | ⟨a, len, cap, m, n, D, Pl, rfl, hb, hl, hm, hmm, rfl, hel⟩
  · exact ⟨[], ⟨none, 0, rfl, Nat.le_refl _, by simp, by simp, fun h => absurd h (by simp)⟩, by simp [muS, Rows.uptoBulk]⟩
  · have hlm : len ≤ m := by rw [hmm]; split <;> omega
    have key : ∀ i, i < len → ∃ y, (mu y + 1 ≤ Rows.uptoBulk (D i)) ∧ ∃ c, c.length = k.sz ∧ k.K w y c ∧ ∀ j u, c[j]? = some u → w.cell? (a.add (i * k.sz + j)) = some u := by
      intro i hi
      obtain ⟨cs', h1, h2⟩ := hel i (by omega)
      obtain ⟨y, hy, hgy⟩ := h H enc w base spare held n cs' _ h2
      obtain ⟨_, hlen, hcell⟩ := World.cells?_some h1
      rw [hc] at hlen h1
      refine ⟨y, hgy, cs', hlen, hy, fun j u hu => ?_⟩
      have hj : j < cs'.length := by
        rcases Nat.lt_or_ge j cs'.length with hj | hj
        · exact hj
        · rw [List.getElem?_eq_none hj] at hu; cases hu
      have := hcell j (by rw [hc]; omega)
      rw [hc] at this
      rw [Deep.add_add] at this
      rw [this]
      exact hu
    by_cases h0 : 0 < len
    · obtain ⟨y0, _⟩ := key 0 h0
      have : Inhabited α := ⟨y0⟩
      obtain ⟨F, hF⟩ := choose_lt (α := α) key
      refine ⟨(List.range len).map F, ⟨some a, cap, by simp, by simpa using hl, by simp, by simp [maxLen] at hm ⊢; omega, fun _ => ⟨a, rfl, fun j p hp => ?_⟩⟩, ?_⟩
      · have hj : j < len := by
          rcases Nat.lt_or_ge j len with hj | hj
          · exact hj
          · rw [List.getElem?_eq_none (by simpa using hj)] at hp; cases hp
        rw [List.getElem?_map, List.getElem?_range hj] at hp
        obtain rfl := Option.some.inj hp
        exact (hF j hj).2
      · have hs := sum_le_bulk (mu := fun i => mu (F i)) (D := D) len (fun i hi => (hF i hi).1)
        have e1 : ((List.range len).map F).map mu = (List.range len).map (fun i => mu (F i)) := by rw [List.map_map]; rfl
        simp only [muS, Rows.uptoBulk, e1, List.length_map, List.length_range]
        omega
    · obtain rfl : len = 0 := by omega
      exact ⟨[], ⟨some a, cap, rfl, by simp, by simp, by simp, fun h => absurd h (by simp)⟩, by simp [muS, Rows.uptoBulk]⟩
def OpensFsB {α : Type} (P : Program) (fs : List Field) (off : Nat) (k : Kd α) (mu : α → Nat) : Prop :=
  ∀ (H : Type) (enc : TypeId × Value → H) (w : World) (base : Nat) (spare : Nat → Bool) (held : Bool) (fuel : Nat) (cs : List Value) (xs : List (DataW H × List MemPlace)),
    cs.length = off + k.sz → (fs.mapM fun f => DataW.trod enc P w base spare held fuel f.type ((cs.drop f.offset).take (P.cellsOf f.type))) = some xs → ∃ a, k.K w a (cs.drop off) ∧ mu a + 1 ≤ Rows.uptoBulkAll (xs.map (·.1))
theorem OpensFsB.one {f : Field} {off : Nat} {k : Kd α} {mu : α → Nat} (ho : f.offset = off) (hc : P.cellsOf f.type = k.sz) (h : OpensB P f.type k mu) : OpensFsB P [f] off k mu := by
  intro H enc w base spare held fuel cs xs hl hx
  have h0 : (cs.drop off).take k.sz = cs.drop off := List.take_of_length_le (by rw [List.length_drop]; omega)
  rw [List.mapM_cons] at hx
  cases ht : DataW.trod enc P w base spare held fuel f.type ((cs.drop f.offset).take (P.cellsOf f.type)) with
  | none => rw [ht] at hx; simp at hx
  | some y =>
    rw [ht] at hx
    have hxs : [y] = xs := by simpa using hx
    subst hxs
    rw [ho, hc, h0] at ht
    obtain ⟨a, ha, hm⟩ := h H enc w base spare held fuel _ y ht
    exact ⟨a, ha, by simp only [List.map_cons, List.map_nil, Rows.uptoBulkAll]; omega⟩
theorem OpensFsB.cons {f : Field} {fs : List Field} {off : Nat} {k : Kd α} {l : Kd β} {mu : α → Nat} {mu' : β → Nat} (ho : f.offset = off) (hc : P.cellsOf f.type = k.sz) (h : OpensB P f.type k mu) (hr : OpensFsB P fs (off + k.sz) l mu') :
    OpensFsB P (f :: fs) off (Kd.pair k l) (fun p => mu p.1 + mu' p.2) := by
  intro H enc w base spare held fuel cs xs hl hx
  have hl' : cs.length = off + (k.sz + l.sz) := hl
  rw [List.mapM_cons] at hx
  cases ht : DataW.trod enc P w base spare held fuel f.type ((cs.drop f.offset).take (P.cellsOf f.type)) with
  | none => rw [ht] at hx; simp at hx
  | some y =>
    cases hs : (fs.mapM fun f => DataW.trod enc P w base spare held fuel f.type ((cs.drop f.offset).take (P.cellsOf f.type))) with
    | none => rw [ht, hs] at hx; simp at hx
    | some ys =>
      rw [ht, hs] at hx
      have hxs : y :: ys = xs := by simpa using hx
      subst hxs
      rw [ho, hc] at ht
      obtain ⟨a, ha, hga⟩ := h H enc w base spare held fuel _ y ht
      obtain ⟨b, hb, hgb⟩ := hr H enc w base spare held fuel cs ys (by omega) hs
      refine ⟨(a, b), ⟨_, _, ?_, ha, hb⟩, ?_⟩
      · rw [← List.drop_drop, List.take_append_drop]
      · simp only [List.map_cons, Rows.uptoBulkAll]
        omega
theorem OpensB.struct {t : TypeId} {fs : Array Field} {k : Kd α} {mu : α → Nat} (ht : P.underlying t = some (.struct fs)) {L : List Field} (hL : fs.toList = L) (hc : P.cellsOf t = k.sz) (h : OpensFsB P L 0 k mu) : OpensB P t k mu := by
  subst hL
  intro H enc w base spare held fuel cs x hx
  obtain _ | fuel := fuel
  · simp [DataW.trod] at hx
  · simp only [DataW.trod, ht] at hx
    split at hx
    · rename_i hl
      obtain ⟨xs, hxs, rfl⟩ := Option.map_eq_some_iff.1 hx
      obtain ⟨a, ha, hga⟩ := h H enc w base spare held fuel cs xs (by rw [hl, hc]; omega) hxs
      exact ⟨a, by simpa using ha, by simp only [Rows.uptoBulk]; omega⟩
    · cases hx
end
/-- Rows' measure. -/
abbrev muR : List (List S68) → Nat := muS (muS fun _ => 0)
theorem opensB29 : OpensB Try.prog 29 (Kd.slice 61 (Kd.slice 68 k68)) muR := OpensB.slice Try.underlying29 (by kernel_rfl) (OpensB.slice Try.underlying61 (by kernel_rfl) (OpensB.leaf opens68))
theorem opensB31 : OpensB Try.prog 31 k31 (fun x => muR x.f0 + muR x.f1) :=
  OpensB.iso (OpensB.struct Try.underlying31 rfl (by kernel_rfl) (OpensFsB.cons rfl (by kernel_rfl) opensB29 (OpensFsB.one rfl (by kernel_rfl) opensB29))) (fun x : S31 => (x.f0, x.f1)) (fun p => ⟨p.1, p.2⟩) (fun _ => rfl)
abbrev mu33 : Bool × Int × Int × S31 × List (List S68) → Nat := fun x => 0 + (0 + (0 + ((muR x.2.2.2.1.f0 + muR x.2.2.2.1.f1) + muR x.2.2.2.2)))
theorem opensB33 : OpensB Try.prog 33 k33 mu33 := by
  have f5 : OpensFsB Try.prog [{ name := "All", type := 29, offset := 5, embedded := false, tag := "", pkgPath := "", byteOffset := 72 }] 5 (Kd.slice 61 (Kd.slice 68 k68)) muR := OpensFsB.one rfl (by kernel_rfl) opensB29
  have f4 := OpensFsB.cons (f := { name := "Rows", type := 31, offset := 3, embedded := false, tag := "", pkgPath := "", byteOffset := 24 }) (off := 3) rfl (by kernel_rfl) opensB31 f5
  have f3 := OpensFsB.cons (f := { name := "Events", type := 3, offset := 2, embedded := false, tag := "", pkgPath := "", byteOffset := 16 }) (off := 2) rfl (by kernel_rfl) (OpensB.leaf (Opens.int Try.underlying3)) f4
  have f2 := OpensFsB.cons (f := { name := "Now", type := 3, offset := 1, embedded := false, tag := "", pkgPath := "", byteOffset := 8 }) (off := 1) rfl (by kernel_rfl) (OpensB.leaf (Opens.int Try.underlying3)) f3
  have f1 := OpensFsB.cons (f := { name := "Tick", type := 4, offset := 0, embedded := false, tag := "", pkgPath := "", byteOffset := 0 }) (off := 0) rfl (by kernel_rfl) (OpensB.leaf (Opens.bool Try.underlying4)) f2
  exact OpensB.struct Try.underlying33 rfl (by kernel_rfl) f1
theorem opensB24 : OpensB Try.prog 24 (Kd.slice 33 k33) (muS mu33) := OpensB.slice Try.underlying24 (by kernel_rfl) opensB33
end Go.Proofs.Yteklabhmmfklbaa
