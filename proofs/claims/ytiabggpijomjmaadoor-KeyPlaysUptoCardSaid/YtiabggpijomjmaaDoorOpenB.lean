import Derived.ProofKit
import Derived.OpenShut
import Derived.Test.YtiabggpijomjmaaDoorRows
import Derived.Test.YtiabggpijomjmaaDoorOpenS
namespace Go.Proofs.YtiabggpijomjmaaDoor
open Go.ChangeShapes Go.WideShapes Go.ChangeAt Go.RowKit Go.Deep Print
open Go.Proofs.YtiabggpijomjmaaDoorW.PrintWords
set_option linter.unusedVariables false
/-- What reads as data of type t is a value of kind k, and its measure is less than the reading's bulk. -/
def OpensB {α : Type} (P : Program) (t : TypeId) (k : Kd α) (mu : α → Nat) (g : α → Prop) : Prop :=
  ∀ (H : Type) (enc : TypeId × Value → H) (w : World) (base : Nat) (spare : Nat → Bool) (held : Bool) (fuel : Nat) (cs : List Value) (x : DataW H × List MemPlace),
    DataW.trod enc P w base spare held fuel t cs = some x → ∃ a, k.K w a cs ∧ mu a + 1 ≤ Rows.uptoBulk x.1 ∧ g a
section
variable {P : Program} {α β : Type}
theorem bulk_one {H : Type} (d : DataW H) : 1 ≤ Rows.uptoBulk d := by
  cases d with
  | lit l => cases l <;> simp [Rows.uptoBulk]
  | nil => simp [Rows.uptoBulk]
  | ptr d => simp [Rows.uptoBulk]
  | slice elems spare => simp [Rows.uptoBulk]
  | agg parts => simp [Rows.uptoBulk]
  | iface t d => simp [Rows.uptoBulk]
  | map entries => simp [Rows.uptoBulk]
  | held h => simp [Rows.uptoBulk]
theorem OpensB.leaf {t : TypeId} {k : Kd α} {g : α → Prop} (h : Opens P t k g) : OpensB P t k (fun _ => 0) g := by
  intro H enc w base spare held fuel cs x hx
  obtain ⟨a, ha, hg⟩ := h H enc w base spare held fuel cs x hx
  exact ⟨a, ha, by have := bulk_one x.1; omega, hg⟩
theorem OpensB.iso {t : TypeId} {k : Kd α} {mu : α → Nat} {g : α → Prop} (h : OpensB P t k mu g) (f : β → α) (b : α → β) (hfb : ∀ a, f (b a) = a) : OpensB P t (Kd.iso k f) (fun y => mu (f y)) (fun y => g (f y)) := by
  intro H enc w base spare held fuel cs x hx
  obtain ⟨a, ha, hga, hg⟩ := h H enc w base spare held fuel cs x hx
  exact ⟨b a, by show k.K w (f (b a)) cs; rw [hfb]; exact ha, by show mu (f (b a)) + 1 ≤ _; rw [hfb]; exact hga, by show g (f (b a)); rw [hfb]; exact hg⟩
theorem sum_le_bulk {H : Type} {mu : Nat → Nat} {D : Nat → DataW H} (n : Nat) (h : ∀ i, i < n → mu i + 1 ≤ Rows.uptoBulk (D i)) : ((List.range n).map mu).sum + n ≤ Rows.uptoBulkAll ((List.range n).map D) := by
  have key : ∀ l : List Nat, (∀ i ∈ l, mu i + 1 ≤ Rows.uptoBulk (D i)) → (l.map mu).sum + l.length ≤ Rows.uptoBulkAll (l.map D) := by
    intro l
    induction l with
    | nil => intro _; simp [Rows.uptoBulkAll]
    | cons i l ih =>
      intro hl
      have h1 := hl i (List.mem_cons_self ..)
      have h2 := ih (fun j hj => hl j (List.mem_cons_of_mem _ hj))
      simp only [List.map_cons, List.sum_cons, List.length_cons, Rows.uptoBulkAll]
      omega
  have := key (List.range n) (fun i hi => h i (List.mem_range.1 hi))
  rwa [List.length_range] at this
/-- A row's measure: its elements', and how many there are. -/
def muS (mu : α → Nat) (xs : List α) : Nat := (xs.map mu).sum + xs.length
theorem OpensB.slice {t e : TypeId} {k : Kd α} {mu : α → Nat} {g : α → Prop} (ht : P.underlying t = some (.slice e)) (hc : P.cellsOf e = k.sz) (h : OpensB P e k mu g) : OpensB P t (Kd.slice e k) (muS mu) (fun xs => ∀ x ∈ xs, g x) := by
  intro H enc w base spare held fuel cs x hx
  rcases open_slice ht hx with ⟨rfl, rfl⟩ | ⟨a, len, cap, m, n, D, Pl, rfl, hb, hl, hm, hmm, rfl, hel⟩
  · exact ⟨[], ⟨none, 0, rfl, Nat.le_refl _, by simp, by simp, fun h => absurd h (by simp)⟩, by simp [muS, Rows.uptoBulk], fun x hx => by simp at hx⟩
  · have hlm : len ≤ m := by rw [hmm]; split <;> omega
    have key : ∀ i, i < len → ∃ y, (mu y + 1 ≤ Rows.uptoBulk (D i) ∧ g y) ∧ ∃ c, c.length = k.sz ∧ k.K w y c ∧ ∀ j u, c[j]? = some u → w.cell? (a.add (i * k.sz + j)) = some u := by
      intro i hi
      obtain ⟨cs', h1, h2⟩ := hel i (by omega)
      obtain ⟨y, hy, hgy⟩ := h H enc w base spare held n cs' _ h2
      obtain ⟨_, hlen, hcell⟩ := World.cells?_some h1
      rw [hc] at hlen h1
      refine ⟨y, hgy, cs', hlen, hy, fun j u hu => ?_⟩
      have hj : j < cs'.length := by
        rcases Nat.lt_or_ge j cs'.length with hj | hj
        · exact hj
        · rw [List.getElem?_eq_none hj] at hu; cases hu
      have := hcell j (by rw [hc]; omega)
      rw [hc] at this
      rw [Deep.add_add] at this
      rw [this]
      exact hu
    by_cases h0 : 0 < len
    · obtain ⟨y0, _⟩ := key 0 h0
      have : Inhabited α := ⟨y0⟩
      obtain ⟨F, hF⟩ := choose_lt (α := α) key
      refine ⟨(List.range len).map F, ⟨some a, cap, by simp, by simpa using hl, by simp, by simp [maxLen] at hm ⊢; omega, fun _ => ⟨a, rfl, fun j p hp => ?_⟩⟩, ?_⟩
      · have hj : j < len := by
          rcases Nat.lt_or_ge j len with hj | hj
          · exact hj
          · rw [List.getElem?_eq_none (by simpa using hj)] at hp; cases hp
        rw [List.getElem?_map, List.getElem?_range hj] at hp
        obtain rfl := Option.some.inj hp
        exact (hF j hj).2
      · refine ⟨?_, fun x hx => by
          obtain ⟨i, hi, rfl⟩ := List.mem_map.1 hx
          exact (hF i (List.mem_range.1 hi)).1.2⟩
        have hs := sum_le_bulk (mu := fun i => mu (F i)) (D := D) len (fun i hi => (hF i hi).1.1)
        have e1 : ((List.range len).map F).map mu = (List.range len).map (fun i => mu (F i)) := by rw [List.map_map]; rfl
        simp only [muS, Rows.uptoBulk, e1, List.length_map, List.length_range]
        omega
    · obtain rfl : len = 0 := by omega
      exact ⟨[], ⟨some a, cap, rfl, by simp, by simp, by simp, fun h => absurd h (by simp)⟩, by simp [muS, Rows.uptoBulk], fun x hx => by simp at hx⟩
theorem OpensB.string {t : TypeId} (ht : P.underlying t = some .string) : OpensB P t Kd.string (fun s => s.size) (fun s => s.size ≤ maxLen) := by
  intro H enc w base spare held fuel cs x hx
  obtain ⟨n, rfl, rfl, hw⟩ := DataW.trod_string ht hx
  refine ⟨n, rfl, ?_, hw⟩
  simp only [Rows.uptoBulk]
  have : n.data.toList.length = n.size := Array.length_toList ..
  omega
theorem OpensB.mono {t : TypeId} {k : Kd α} {mu : α → Nat} {g g' : α → Prop} (h : OpensB P t k mu g) (hg : ∀ a, g a → g' a) : OpensB P t k mu g' := by
  intro H enc w base spare held fuel cs x hx
  obtain ⟨a, ha, hm, hga⟩ := h H enc w base spare held fuel cs x hx
  exact ⟨a, ha, hm, hg a hga⟩
def OpensFsB {α : Type} (P : Program) (fs : List Field) (off : Nat) (k : Kd α) (mu : α → Nat) (g : α → Prop) : Prop :=
  ∀ (H : Type) (enc : TypeId × Value → H) (w : World) (base : Nat) (spare : Nat → Bool) (held : Bool) (fuel : Nat) (cs : List Value) (xs : List (DataW H × List MemPlace)),
    cs.length = off + k.sz → (fs.mapM fun f => DataW.trod enc P w base spare held fuel f.type ((cs.drop f.offset).take (P.cellsOf f.type))) = some xs → ∃ a, k.K w a (cs.drop off) ∧ mu a + 1 ≤ Rows.uptoBulkAll (xs.map (·.1)) ∧ g a
theorem OpensFsB.one {f : Field} {off : Nat} {k : Kd α} {mu : α → Nat} {g : α → Prop} (ho : f.offset = off) (hc : P.cellsOf f.type = k.sz) (h : OpensB P f.type k mu g) : OpensFsB P [f] off k mu g := by
  intro H enc w base spare held fuel cs xs hl hx
  have h0 : (cs.drop off).take k.sz = cs.drop off := List.take_of_length_le (by rw [List.length_drop]; omega)
  rw [List.mapM_cons] at hx
  cases ht : DataW.trod enc P w base spare held fuel f.type ((cs.drop f.offset).take (P.cellsOf f.type)) with
  | none => rw [ht] at hx; simp at hx
  | some y =>
    rw [ht] at hx
    have hxs : [y] = xs := by simpa using hx
    subst hxs
    rw [ho, hc, h0] at ht
    obtain ⟨a, ha, hm, hg⟩ := h H enc w base spare held fuel _ y ht
    exact ⟨a, ha, by simp only [List.map_cons, List.map_nil, Rows.uptoBulkAll]; omega, hg⟩
theorem OpensFsB.cons {f : Field} {fs : List Field} {off : Nat} {k : Kd α} {l : Kd β} {mu : α → Nat} {mu' : β → Nat} {g : α → Prop} {g' : β → Prop} (ho : f.offset = off) (hc : P.cellsOf f.type = k.sz) (h : OpensB P f.type k mu g) (hr : OpensFsB P fs (off + k.sz) l mu' g') :
    OpensFsB P (f :: fs) off (Kd.pair k l) (fun p => mu p.1 + mu' p.2) (fun p => g p.1 ∧ g' p.2) := by
  intro H enc w base spare held fuel cs xs hl hx
  have hl' : cs.length = off + (k.sz + l.sz) := hl
  rw [List.mapM_cons] at hx
  cases ht : DataW.trod enc P w base spare held fuel f.type ((cs.drop f.offset).take (P.cellsOf f.type)) with
  | none => rw [ht] at hx; simp at hx
  | some y =>
    cases hs : (fs.mapM fun f => DataW.trod enc P w base spare held fuel f.type ((cs.drop f.offset).take (P.cellsOf f.type))) with
    | none => rw [ht, hs] at hx; simp at hx
    | some ys =>
      rw [ht, hs] at hx
      have hxs : y :: ys = xs := by simpa using hx
      subst hxs
      rw [ho, hc] at ht
      obtain ⟨a, ha, hga, hg⟩ := h H enc w base spare held fuel _ y ht
      obtain ⟨b, hb, hgb, hg'⟩ := hr H enc w base spare held fuel cs ys (by omega) hs
      refine ⟨(a, b), ⟨_, _, ?_, ha, hb⟩, ?_, hg, hg'⟩
      · rw [← List.drop_drop, List.take_append_drop]
      · simp only [List.map_cons, Rows.uptoBulkAll]
        omega
theorem OpensB.struct {t : TypeId} {fs : Array Field} {k : Kd α} {mu : α → Nat} {g : α → Prop} (ht : P.underlying t = some (.struct fs)) {L : List Field} (hL : fs.toList = L) (hc : P.cellsOf t = k.sz) (h : OpensFsB P L 0 k mu g) : OpensB P t k mu g := by
  subst hL
  intro H enc w base spare held fuel cs x hx
  obtain _ | fuel := fuel
  · simp [DataW.trod] at hx
  · simp only [DataW.trod, ht] at hx
    split at hx
    · rename_i hl
      obtain ⟨xs, hxs, rfl⟩ := Option.map_eq_some_iff.1 hx
      obtain ⟨a, ha, hga, hg⟩ := h H enc w base spare held fuel cs xs (by rw [hl, hc]; omega) hxs
      exact ⟨a, by simpa using ha, by simp only [Rows.uptoBulk]; omega, hg⟩
    · cases hx
end
/-- A row's measure. -/
abbrev mu53 : S53 → Nat := fun x => 0 + (0 + x.f2.size)
theorem opensB53 : OpensB Tryd.prog 53 k53 mu53 good53 :=
  (OpensB.iso (OpensB.struct Tryd.underlying53 rfl (by kernel_rfl) (OpensFsB.cons rfl (by kernel_rfl) (OpensB.leaf (Opens.int Tryd.underlying3)) (OpensFsB.cons rfl (by kernel_rfl) (OpensB.leaf (Opens.int Tryd.underlying3)) (OpensFsB.one rfl (by kernel_rfl) (OpensB.string Tryd.underlying9))))) (fun x : S53 => (x.f0, x.f1, x.f2)) (fun p => ⟨p.1, p.2.1, p.2.2⟩) (fun _ => rfl)).mono (fun _ h => h)
theorem opensB22 : OpensB Tryd.prog 22 (Kd.slice 53 k53) (muS mu53) (fun xs => ∀ x ∈ xs, good53 x) := OpensB.slice Tryd.underlying22 (by kernel_rfl) opensB53
theorem arg22 {H : Type} {enc : TypeId × Value → H} {W : World} {base b0 : Nat} {sp : Nat → Bool} {held : Bool} {v : Value} {d : DataW H} {p : List MemPlace} (hv : Value.okWide Tryd.prog W .any base 22 v) (h : DataW.Trod enc Tryd.prog W b0 sp held 22 v d p) :
    ∃ A c l, v = .slice A (List.length l) c ∧ l.length ≤ c ∧ Kd.C k53 W A l.length l ∧ muS mu53 l + 1 ≤ Rows.uptoBulk d ∧ ∀ x ∈ l, good53 x := by
  obtain ⟨a, len, cap, rfl⟩ := okWide_slice Tryd.underlying22 hv
  obtain ⟨m, hm⟩ := h
  obtain ⟨l, ⟨A, c, he, hl, hC⟩, hb, hg⟩ := opensB22 H enc W b0 sp held m _ _ hm
  have he' : [Value.slice a len cap] = [Value.slice A l.length c] := he
  injection he' with he' _
  exact ⟨A, c, l, he', hl, hC, hb, hg⟩
theorem arg9 {H : Type} {enc : TypeId × Value → H} {W : World} {base b0 : Nat} {sp : Nat → Bool} {held : Bool} {v : Value} {d : DataW H} {p : List MemPlace} (hv : Value.okWide Tryd.prog W .any base 9 v) (h : DataW.Trod enc Tryd.prog W b0 sp held 9 v d p) :
    ∃ s, v = .string s ∧ s.size + 1 ≤ Rows.uptoBulk d := by
  obtain ⟨s, rfl, rfl, rfl, _⟩ := Go.ChangeMaps.open_string Tryd.underlying9 hv h
  refine ⟨s, rfl, ?_⟩
  simp only [Rows.uptoBulk]
  have : s.data.toList.length = s.size := Array.length_toList ..
  omega
theorem len_mu (l : List S53) : l.length ≤ muS mu53 l := by show _ ≤ (l.map _).sum + l.length; omega
theorem in64_good {x : S53} (h : good53 x) : -9223372036854775808 ≤ x.f1 ∧ x.f1 < 9223372036854775808 := by
  have := h.2.1
  simp only [Lit.wf, Bool.and_eq_true, decide_eq_true_eq] at this
  have a1 : IntKind.i64.min = -9223372036854775808 := by decide
  have a2 : IntKind.i64.max = 9223372036854775807 := by decide
  rw [a1, a2] at this
  omega
end Go.Proofs.YtiabggpijomjmaaDoor
