import Derived.Test.YteklabhmmfklbaaWWords
import Derived.Deep.Slices
import Derived.WideShapes
import Derived.Test.YteklabhmmfklbaaPx0
import Derived.Carry
import Derived.WalkKit
import Derived.ProofKit
import Derived.OpenShut
import Derived.ShutString
import Derived.ChangeOld
import Derived.Below
import Derived.SizedLaws
import Derived.Test.YteklabhmmfklbaaRows
namespace Go.Proofs.Yteklabhmmfklbaa
open Go.RowKit Go.Deep Go.Proofs.YteklabhmmfklbaaW.PrintWords
/-- What reads as data of type t is a value of kind k. -/
def Opens {α : Type} (P : Program) (t : TypeId) (k : Kd α) (good : α → Prop) : Prop :=
  ∀ (H : Type) (enc : TypeId × Value → H) (w : World) (base : Nat) (spare : Nat → Bool) (held : Bool) (fuel : Nat) (cs : List Value) (x : DataW H × List MemPlace),
    DataW.trod enc P w base spare held fuel t cs = some x → ∃ a, k.K w a cs ∧ good a
section
variable {P : Program} {α β : Type}
theorem Opens.mono {t : TypeId} {k : Kd α} {g g' : α → Prop} (h : Opens P t k g) (hg : ∀ a, g a → g' a) : Opens P t k g' := by
  intro H enc w base spare held fuel cs x hx
  obtain ⟨a, ha, hga⟩ := h H enc w base spare held fuel cs x hx
  exact ⟨a, ha, hg a hga⟩
theorem Opens.int {t : TypeId} {k : IntKind} (ht : P.underlying t = some (.int k)) : Opens P t (Kd.int k) (fun z => (Lit.int k z).wf = true) := by
  intro H enc w base spare held fuel cs x hx
  obtain ⟨n, rfl, _, hw⟩ := DataW.trod_int ht hx
  exact ⟨n, rfl, hw⟩
theorem Opens.bool {t : TypeId} (ht : P.underlying t = some .bool) : Opens P t Kd.bool (fun _ => True) := by
  intro H enc w base spare held fuel cs x hx
  obtain ⟨n, rfl, _⟩ := DataW.trod_bool ht hx
  exact ⟨n, rfl, trivial⟩
theorem Opens.string {t : TypeId} (ht : P.underlying t = some .string) : Opens P t Kd.string (fun s => s.size ≤ maxLen) := by
  intro H enc w base spare held fuel cs x hx
  obtain ⟨n, rfl, _, hw⟩ := DataW.trod_string ht hx
  exact ⟨n, rfl, hw⟩
theorem Opens.iso {t : TypeId} {k : Kd α} {g : α → Prop} (h : Opens P t k g) (f : β → α) (b : α → β) (hfb : ∀ a, f (b a) = a) : Opens P t (Kd.iso k f) (fun y => g (f y)) := by
  intro H enc w base spare held fuel cs x hx
  obtain ⟨a, ha, hga⟩ := h H enc w base spare held fuel cs x hx
  exact ⟨b a, by show k.K w (f (b a)) cs; rw [hfb]; exact ha, by show g (f (b a)); rw [hfb]; exact hga⟩
theorem Opens.slice {t e : TypeId} {k : Kd α} {g : α → Prop} (ht : P.underlying t = some (.slice e)) (hc : P.cellsOf e = k.sz) (h : Opens P e k g) : Opens P t (Kd.slice e k) (fun xs => xs.length ≤ maxLen ∧ ∀ x ∈ xs, g x) := by
  intro H enc w base spare held fuel cs x hx
  rcases open_slice ht hx with ⟨rfl, _⟩ | ⟨a, len, cap, m, n, D, Pl, rfl, hb, hl, hm, hmm, _, hel⟩
  · exact ⟨[], ⟨none, 0, rfl, Nat.le_refl _, by simp, by simp, fun h => absurd h (by simp)⟩, by simp [maxLen], fun x hx => by simp at hx⟩
  · have hlm : len ≤ m := by rw [hmm]; split <;> omega
    have key : ∀ i, i < len → ∃ y, g y ∧ ∃ c, c.length = k.sz ∧ k.K w y c ∧ ∀ j u, c[j]? = some u → w.cell? (a.add (i * k.sz + j)) = some u := by
      intro i hi
      obtain ⟨cs', h1, h2⟩ := hel i (by omega)
      obtain ⟨y, hy, hgy⟩ := h H enc w base spare held n cs' _ h2
      obtain ⟨_, hlen, hcell⟩ := World.cells?_some h1
      rw [hc] at hlen h1
      refine ⟨y, hgy, cs', hlen, hy, fun j u hu => ?_⟩
      have hj : j < cs'.length := by
        rcases Nat.lt_or_ge j cs'.length with hj | hj
        · exact hj
        · rw [List.getElem?_eq_none hj] at hu; cases hu
      have := hcell j (by rw [hc]; omega)
      rw [hc] at this
      rw [Deep.add_add] at this
      rw [this]
      exact hu
    by_cases h0 : 0 < len
    · obtain ⟨y0, _⟩ := key 0 h0
      have : Inhabited α := ⟨y0⟩
      obtain ⟨F, hF⟩ := choose_lt (α := α) key
      refine ⟨(List.range len).map F, ⟨some a, cap, by simp, by simpa using hl, by simp, by simp [maxLen] at hm ⊢; omega, fun _ => ⟨a, rfl, fun j p hp => ?_⟩⟩, by simpa using Nat.le_trans hl hm, ?_⟩
      · have hj : j < len := by
          rcases Nat.lt_or_ge j len with hj | hj
          · exact hj
          · rw [List.getElem?_eq_none (by simpa using hj)] at hp; cases hp
        rw [List.getElem?_map, List.getElem?_range hj] at hp
        obtain rfl := Option.some.inj hp
        exact (hF j hj).2
      · intro x hx
        obtain ⟨i, hi, rfl⟩ := List.mem_map.1 hx
        exact (hF i (List.mem_range.1 hi)).1
    · obtain rfl : len = 0 := by omega
      exact ⟨[], ⟨some a, cap, rfl, by simp, by simp, by simp, fun h => absurd h (by simp)⟩, by simp [maxLen], fun x hx => by simp at hx⟩
/-- The fields from place off on. -/
def OpensFs {α : Type} (P : Program) (fs : List Field) (off : Nat) (k : Kd α) (good : α → Prop) : Prop :=
  ∀ (H : Type) (enc : TypeId × Value → H) (w : World) (base : Nat) (spare : Nat → Bool) (held : Bool) (fuel : Nat) (cs : List Value) (xs : List (DataW H × List MemPlace)),
    cs.length = off + k.sz → (fs.mapM fun f => DataW.trod enc P w base spare held fuel f.type ((cs.drop f.offset).take (P.cellsOf f.type))) = some xs → ∃ a, k.K w a (cs.drop off) ∧ good a
theorem OpensFs.one {f : Field} {off : Nat} {k : Kd α} {g : α → Prop} (ho : f.offset = off) (hc : P.cellsOf f.type = k.sz) (h : Opens P f.type k g) : OpensFs P [f] off k g := by
  intro H enc w base spare held fuel cs xs hl hx
  have h0 : (cs.drop off).take k.sz = cs.drop off := List.take_of_length_le (by rw [List.length_drop]; omega)
  rw [List.mapM_cons] at hx
  cases ht : DataW.trod enc P w base spare held fuel f.type ((cs.drop f.offset).take (P.cellsOf f.type)) with
  | none => rw [ht] at hx; simp at hx
  | some y =>
    rw [ho, hc, h0] at ht
    exact h H enc w base spare held fuel _ y ht
theorem OpensFs.cons {f : Field} {fs : List Field} {off : Nat} {k : Kd α} {l : Kd β} {g : α → Prop} {g' : β → Prop} (ho : f.offset = off) (hc : P.cellsOf f.type = k.sz) (h : Opens P f.type k g) (hr : OpensFs P fs (off + k.sz) l g') :
    OpensFs P (f :: fs) off (Kd.pair k l) (fun p => g p.1 ∧ g' p.2) := by
  intro H enc w base spare held fuel cs xs hl hx
  have hl' : cs.length = off + (k.sz + l.sz) := hl
  rw [List.mapM_cons] at hx
  cases ht : DataW.trod enc P w base spare held fuel f.type ((cs.drop f.offset).take (P.cellsOf f.type)) with
  | none => rw [ht] at hx; simp at hx
  | some y =>
    cases hs : (fs.mapM fun f => DataW.trod enc P w base spare held fuel f.type ((cs.drop f.offset).take (P.cellsOf f.type))) with
    | none => rw [ht, hs] at hx; simp at hx
    | some ys =>
      rw [ho, hc] at ht
      obtain ⟨a, ha, hga⟩ := h H enc w base spare held fuel _ y ht
      obtain ⟨b, hb, hgb⟩ := hr H enc w base spare held fuel cs ys (by omega) hs
      refine ⟨(a, b), ⟨_, _, ?_, ha, hb⟩, hga, hgb⟩
      rw [← List.drop_drop, List.take_append_drop]
theorem Opens.struct {t : TypeId} {fs : Array Field} {k : Kd α} {g : α → Prop} (ht : P.underlying t = some (.struct fs)) {L : List Field} (hL : fs.toList = L) (hc : P.cellsOf t = k.sz) (h : OpensFs P L 0 k g) : Opens P t k g := by
  subst hL
  intro H enc w base spare held fuel cs x hx
  obtain _ | fuel := fuel
  · simp [DataW.trod] at hx
  · simp only [DataW.trod, ht] at hx
    split at hx
    · rename_i hl
      obtain ⟨xs, hxs, _⟩ := Option.map_eq_some_iff.1 hx
      obtain ⟨a, ha, hga⟩ := h H enc w base spare held fuel cs xs (by rw [hl, hc]; omega) hxs
      exact ⟨a, by simpa using ha, hga⟩
    · cases hx
theorem Opens.array2 {t e : TypeId} {k : Kd α} {g : α → Prop} (ht : P.underlying t = some (.array 2 e)) (he : P.cellsOf e = k.sz) (hc : P.cellsOf t = k.sz + k.sz) (h : Opens P e k g) : Opens P t (Kd.pair k k) (fun p => g p.1 ∧ g p.2) := by
  intro H enc w base spare held fuel cs x hx
  obtain _ | fuel := fuel
  · simp [DataW.trod] at hx
  · simp only [DataW.trod, ht] at hx
    split at hx
    · rename_i hl
      obtain ⟨xs, hxs, _⟩ := Option.map_eq_some_iff.1 hx
      rw [show List.range 2 = [0, 1] from rfl, List.mapM_cons] at hxs
      cases h0 : DataW.trod enc P w base spare held fuel e ((cs.drop (0 * P.cellsOf e)).take (P.cellsOf e)) with
      | none => rw [h0] at hxs; simp at hxs
      | some y0 =>
        cases h1 : DataW.trod enc P w base spare held fuel e ((cs.drop (1 * P.cellsOf e)).take (P.cellsOf e)) with
        | none => rw [h0, List.mapM_cons, h1] at hxs; simp at hxs
        | some y1 =>
          rw [he] at h0 h1
          obtain ⟨a, ha, hga⟩ := h H enc w base spare held fuel _ y0 h0
          obtain ⟨b, hb, hgb⟩ := h H enc w base spare held fuel _ y1 h1
          refine ⟨(a, b), ⟨_, _, ?_, ha, hb⟩, hga, hgb⟩
          rw [Nat.zero_mul, List.drop_zero, Nat.one_mul, List.take_of_length_le (l := List.drop k.sz cs) (by rw [List.length_drop, hl, hc]; omega), List.take_append_drop]
    · cases hx
end
end Go.Proofs.Yteklabhmmfklbaa
namespace Go.Proofs.Yteklabhmmfklbaa
open Go.ChangeShapes Go.WideShapes Go.ChangeAt Go.RowKit Print
open Go.ChangeMaps (open_string shut_string)
open Go.Proofs.YteklabhmmfklbaaW.PrintWords
set_option linter.unusedVariables false
def good68 (x : S68) : Prop := (Lit.int .i64 x.f0).wf = true ∧ (Lit.int .i64 x.f1).wf = true ∧ x.f2.size ≤ maxLen
theorem opens68 : Opens Try.prog 68 k68 good68 :=
  (Opens.iso (Opens.struct Try.underlying68 rfl (by kernel_rfl) (OpensFs.cons rfl (by kernel_rfl) (Opens.int Try.underlying3) (OpensFs.cons rfl (by kernel_rfl) (Opens.int Try.underlying3) (OpensFs.one rfl (by kernel_rfl) (Opens.string Try.underlying9))))) (fun x : S68 => (x.f0, x.f1, x.f2)) (fun p => ⟨p.1, p.2.1, p.2.2⟩) (fun _ => rfl)).mono (fun _ h => h)
theorem opens29 : Opens Try.prog 29 (Kd.slice 61 (Kd.slice 68 k68)) (fun _ => True) :=
  (Opens.slice Try.underlying29 (by kernel_rfl) (Opens.slice Try.underlying61 (by kernel_rfl) opens68)).mono (fun _ _ => trivial)
theorem opens31 : Opens Try.prog 31 k31 (fun _ => True) :=
  (Opens.iso (Opens.struct Try.underlying31 rfl (by kernel_rfl) (OpensFs.cons rfl (by kernel_rfl) opens29 (OpensFs.one rfl (by kernel_rfl) opens29))) (fun x : S31 => (x.f0, x.f1)) (fun p => ⟨p.1, p.2⟩) (fun _ => rfl)).mono (fun _ _ => trivial)
abbrev k33 : Kd (Bool × Int × Int × S31 × List (List S68)) := Kd.pair Kd.bool (Kd.pair (Kd.int .i64) (Kd.pair (Kd.int .i64) (Kd.pair k31 (Kd.slice 61 (Kd.slice 68 k68)))))
theorem opens33 : Opens Try.prog 33 k33 (fun x => (Lit.int .i64 x.2.1).wf = true ∧ (Lit.int .i64 x.2.2.1).wf = true) :=
  (Opens.struct Try.underlying33 rfl (by kernel_rfl) (OpensFs.cons rfl (by kernel_rfl) (Opens.bool Try.underlying4) (OpensFs.cons rfl (by kernel_rfl) (Opens.int Try.underlying3) (OpensFs.cons rfl (by kernel_rfl) (Opens.int Try.underlying3) (OpensFs.cons rfl (by kernel_rfl) opens31 (OpensFs.one rfl (by kernel_rfl) opens29)))))).mono (fun _ h => ⟨h.2.1, h.2.2.1⟩)
theorem k33_open {w : World} {x : Bool × Int × Int × S31 × List (List S68)} {cs : List Value} (h : k33.K w x cs) : ∃ A0 c0 A1 c1 A2 c2, cs = [.bool x.1, .int .i64 x.2.1, .int .i64 x.2.2.1, .slice A0 x.2.2.2.1.f0.length c0, .slice A1 x.2.2.2.1.f1.length c1, .slice A2 x.2.2.2.2.length c2] ∧
    x.2.2.2.1.f0.length ≤ c0 ∧ (Kd.slice 68 k68).C w A0 x.2.2.2.1.f0.length x.2.2.2.1.f0 ∧ x.2.2.2.1.f1.length ≤ c1 ∧ (Kd.slice 68 k68).C w A1 x.2.2.2.1.f1.length x.2.2.2.1.f1 ∧ x.2.2.2.2.length ≤ c2 ∧ (Kd.slice 68 k68).C w A2 x.2.2.2.2.length x.2.2.2.2 := by
  obtain ⟨a, r, rfl, ha, b, r2, rfl, hb, c, r3, rfl, hc, d, r4, rfl, hd, he⟩ := h
  obtain ⟨A0, c0, A1, c1, rfl, l0, g0, l1, g1⟩ := k31_open hd
  obtain ⟨A2, c2, rfl, l2, g2⟩ := he
  have ha' : a = [.bool x.1] := ha
  have hb' : b = [.int .i64 x.2.1] := hb
  have hc' : c = [.int .i64 x.2.2.1] := hc
  subst ha' hb' hc'
  exact ⟨A0, c0, A1, c1, A2, c2, rfl, l0, g0, l1, g1, l2, g2⟩
theorem i64_of {n : Int} (h : (Lit.int .i64 n).wf = true) : -9223372036854775808 ≤ n ∧ n ≤ 9223372036854775807 := by
  simp [Lit.wf, IntKind.min, IntKind.max, IntKind.signed, IntKind.bits] at h
  omega
theorem laidOut : laidOutB Try.prog = true := by kernel_rfl
theorem own : ownKnob Try.prog.godebug = none := by kernel_rfl
end Go.Proofs.Yteklabhmmfklbaa
namespace Go.Proofs.Yteklabhmmfklbaa
open Go.ChangeShapes Go.WideShapes Go.ChangeAt Go.RowKit Go.Deep Print
open Go.Proofs.YteklabhmmfklbaaW.PrintWords
set_option linter.unusedVariables false
/-- What reads as data of type t is a value of kind k, and its measure is less than the reading's bulk. -/
def OpensB {α : Type} (P : Program) (t : TypeId) (k : Kd α) (mu : α → Nat) : Prop :=
  ∀ (H : Type) (enc : TypeId × Value → H) (w : World) (base : Nat) (spare : Nat → Bool) (held : Bool) (fuel : Nat) (cs : List Value) (x : DataW H × List MemPlace),
    DataW.trod enc P w base spare held fuel t cs = some x → ∃ a, k.K w a cs ∧ mu a + 1 ≤ Rows.uptoBulk x.1
section
variable {P : Program} {α β : Type}
theorem bulk_one {H : Type} (d : DataW H) : 1 ≤ Rows.uptoBulk d := by
  cases d with
  | lit l => cases l <;> simp [Rows.uptoBulk]
  | nil => simp [Rows.uptoBulk]
  | ptr d => simp [Rows.uptoBulk]
  | slice elems spare => simp [Rows.uptoBulk]
  | agg parts => simp [Rows.uptoBulk]
  | iface t d => simp [Rows.uptoBulk]
  | map entries => simp [Rows.uptoBulk]
  | held h => simp [Rows.uptoBulk]
theorem OpensB.leaf {t : TypeId} {k : Kd α} {g : α → Prop} (h : Opens P t k g) : OpensB P t k (fun _ => 0) := by
  intro H enc w base spare held fuel cs x hx
  obtain ⟨a, ha, _⟩ := h H enc w base spare held fuel cs x hx
  exact ⟨a, ha, by have := bulk_one x.1; omega⟩
theorem OpensB.iso {t : TypeId} {k : Kd α} {mu : α → Nat} (h : OpensB P t k mu) (f : β → α) (b : α → β) (hfb : ∀ a, f (b a) = a) : OpensB P t (Kd.iso k f) (fun y => mu (f y)) := by
  intro H enc w base spare held fuel cs x hx
  obtain ⟨a, ha, hga⟩ := h H enc w base spare held fuel cs x hx
  exact ⟨b a, by show k.K w (f (b a)) cs; rw [hfb]; exact ha, by show mu (f (b a)) + 1 ≤ _; rw [hfb]; exact hga⟩
theorem sum_le_bulk {H : Type} {mu : Nat → Nat} {D : Nat → DataW H} (n : Nat) (h : ∀ i, i < n → mu i + 1 ≤ Rows.uptoBulk (D i)) : ((List.range n).map mu).sum + n ≤ Rows.uptoBulkAll ((List.range n).map D) := by
  have key : ∀ l : List Nat, (∀ i ∈ l, mu i + 1 ≤ Rows.uptoBulk (D i)) → (l.map mu).sum + l.length ≤ Rows.uptoBulkAll (l.map D) := by
    intro l
    induction l with
    | nil => intro _; simp [Rows.uptoBulkAll]
    | cons i l ih =>
      intro hl
      have h1 := hl i (List.mem_cons_self ..)
      have h2 := ih (fun j hj => hl j (List.mem_cons_of_mem _ hj))
      simp only [List.map_cons, List.sum_cons, List.length_cons, Rows.uptoBulkAll]
      omega
  have := key (List.range n) (fun i hi => h i (List.mem_range.1 hi))
  rwa [List.length_range] at this
/-- A row's measure: its elements', and how many there are. -/
def muS (mu : α → Nat) (xs : List α) : Nat := (xs.map mu).sum + xs.length
theorem OpensB.slice {t e : TypeId} {k : Kd α} {mu : α → Nat} (ht : P.underlying t = some (.slice e)) (hc : P.cellsOf e = k.sz) (h : OpensB P e k mu) : OpensB P t (Kd.slice e k) (muS mu) := by
  intro H enc w base spare held fuel cs x hx
  rcases open_slice ht hx with ⟨rfl, rfl⟩ | ⟨a, len, cap, m, n, D, Pl, rfl, hb, hl, hm, hmm, rfl, hel⟩
  · exact ⟨[], ⟨none, 0, rfl, Nat.le_refl _, by simp, by simp, fun h => absurd h (by simp)⟩, by simp [muS, Rows.uptoBulk]⟩
  · have hlm : len ≤ m := by rw [hmm]; split <;> omega
    have key : ∀ i, i < len → ∃ y, (mu y + 1 ≤ Rows.uptoBulk (D i)) ∧ ∃ c, c.length = k.sz ∧ k.K w y c ∧ ∀ j u, c[j]? = some u → w.cell? (a.add (i * k.sz + j)) = some u := by
      intro i hi
      obtain ⟨cs', h1, h2⟩ := hel i (by omega)
      obtain ⟨y, hy, hgy⟩ := h H enc w base spare held n cs' _ h2
      obtain ⟨_, hlen, hcell⟩ := World.cells?_some h1
      rw [hc] at hlen h1
      refine ⟨y, hgy, cs', hlen, hy, fun j u hu => ?_⟩
      have hj : j < cs'.length := by
        rcases Nat.lt_or_ge j cs'.length with hj | hj
        · exact hj
        · rw [List.getElem?_eq_none hj] at hu; cases hu
      have := hcell j (by rw [hc]; omega)
      rw [hc] at this
      rw [Deep.add_add] at this
      rw [this]
      exact hu
    by_cases h0 : 0 < len
    · obtain ⟨y0, _⟩ := key 0 h0
      have : Inhabited α := ⟨y0⟩
      obtain ⟨F, hF⟩ := choose_lt (α := α) key
      refine ⟨(List.range len).map F, ⟨some a, cap, by simp, by simpa using hl, by simp, by simp [maxLen] at hm ⊢; omega, fun _ => ⟨a, rfl, fun j p hp => ?_⟩⟩, ?_⟩
      · have hj : j < len := by
          rcases Nat.lt_or_ge j len with hj | hj
          · exact hj
          · rw [List.getElem?_eq_none (by simpa using hj)] at hp; cases hp
        rw [List.getElem?_map, List.getElem?_range hj] at hp
        obtain rfl := Option.some.inj hp
        exact (hF j hj).2
      · have hs := sum_le_bulk (mu := fun i => mu (F i)) (D := D) len (fun i hi => (hF i hi).1)
        have e1 : ((List.range len).map F).map mu = (List.range len).map (fun i => mu (F i)) := by rw [List.map_map]; rfl
        simp only [muS, Rows.uptoBulk, e1, List.length_map, List.length_range]
        omega
    · obtain rfl : len = 0 := by omega
      exact ⟨[], ⟨some a, cap, rfl, by simp, by simp, by simp, fun h => absurd h (by simp)⟩, by simp [muS, Rows.uptoBulk]⟩
def OpensFsB {α : Type} (P : Program) (fs : List Field) (off : Nat) (k : Kd α) (mu : α → Nat) : Prop :=
  ∀ (H : Type) (enc : TypeId × Value → H) (w : World) (base : Nat) (spare : Nat → Bool) (held : Bool) (fuel : Nat) (cs : List Value) (xs : List (DataW H × List MemPlace)),
    cs.length = off + k.sz → (fs.mapM fun f => DataW.trod enc P w base spare held fuel f.type ((cs.drop f.offset).take (P.cellsOf f.type))) = some xs → ∃ a, k.K w a (cs.drop off) ∧ mu a + 1 ≤ Rows.uptoBulkAll (xs.map (·.1))
theorem OpensFsB.one {f : Field} {off : Nat} {k : Kd α} {mu : α → Nat} (ho : f.offset = off) (hc : P.cellsOf f.type = k.sz) (h : OpensB P f.type k mu) : OpensFsB P [f] off k mu := by
  intro H enc w base spare held fuel cs xs hl hx
  have h0 : (cs.drop off).take k.sz = cs.drop off := List.take_of_length_le (by rw [List.length_drop]; omega)
  rw [List.mapM_cons] at hx
  cases ht : DataW.trod enc P w base spare held fuel f.type ((cs.drop f.offset).take (P.cellsOf f.type)) with
  | none => rw [ht] at hx; simp at hx
  | some y =>
    rw [ht] at hx
    have hxs : [y] = xs := by simpa using hx
    subst hxs
    rw [ho, hc, h0] at ht
    obtain ⟨a, ha, hm⟩ := h H enc w base spare held fuel _ y ht
    exact ⟨a, ha, by simp only [List.map_cons, List.map_nil, Rows.uptoBulkAll]; omega⟩
theorem OpensFsB.cons {f : Field} {fs : List Field} {off : Nat} {k : Kd α} {l : Kd β} {mu : α → Nat} {mu' : β → Nat} (ho : f.offset = off) (hc : P.cellsOf f.type = k.sz) (h : OpensB P f.type k mu) (hr : OpensFsB P fs (off + k.sz) l mu') :
    OpensFsB P (f :: fs) off (Kd.pair k l) (fun p => mu p.1 + mu' p.2) := by
  intro H enc w base spare held fuel cs xs hl hx
  have hl' : cs.length = off + (k.sz + l.sz) := hl
  rw [List.mapM_cons] at hx
  cases ht : DataW.trod enc P w base spare held fuel f.type ((cs.drop f.offset).take (P.cellsOf f.type)) with
  | none => rw [ht] at hx; simp at hx
  | some y =>
    cases hs : (fs.mapM fun f => DataW.trod enc P w base spare held fuel f.type ((cs.drop f.offset).take (P.cellsOf f.type))) with
    | none => rw [ht, hs] at hx; simp at hx
    | some ys =>
      rw [ht, hs] at hx
      have hxs : y :: ys = xs := by simpa using hx
      subst hxs
      rw [ho, hc] at ht
      obtain ⟨a, ha, hga⟩ := h H enc w base spare held fuel _ y ht
      obtain ⟨b, hb, hgb⟩ := hr H enc w base spare held fuel cs ys (by omega) hs
      refine ⟨(a, b), ⟨_, _, ?_, ha, hb⟩, ?_⟩
      · rw [← List.drop_drop, List.take_append_drop]
      · simp only [List.map_cons, Rows.uptoBulkAll]
        omega
theorem OpensB.struct {t : TypeId} {fs : Array Field} {k : Kd α} {mu : α → Nat} (ht : P.underlying t = some (.struct fs)) {L : List Field} (hL : fs.toList = L) (hc : P.cellsOf t = k.sz) (h : OpensFsB P L 0 k mu) : OpensB P t k mu := by
  subst hL
  intro H enc w base spare held fuel cs x hx
  obtain _ | fuel := fuel
  · simp [DataW.trod] at hx
  · simp only [DataW.trod, ht] at hx
    split at hx
    · rename_i hl
      obtain ⟨xs, hxs, rfl⟩ := Option.map_eq_some_iff.1 hx
      obtain ⟨a, ha, hga⟩ := h H enc w base spare held fuel cs xs (by rw [hl, hc]; omega) hxs
      exact ⟨a, by simpa using ha, by simp only [Rows.uptoBulk]; omega⟩
    · cases hx
end
/-- Rows' measure. -/
abbrev muR : List (List S68) → Nat := muS (muS fun _ => 0)
theorem opensB29 : OpensB Try.prog 29 (Kd.slice 61 (Kd.slice 68 k68)) muR := OpensB.slice Try.underlying29 (by kernel_rfl) (OpensB.slice Try.underlying61 (by kernel_rfl) (OpensB.leaf opens68))
theorem opensB31 : OpensB Try.prog 31 k31 (fun x => muR x.f0 + muR x.f1) :=
  OpensB.iso (OpensB.struct Try.underlying31 rfl (by kernel_rfl) (OpensFsB.cons rfl (by kernel_rfl) opensB29 (OpensFsB.one rfl (by kernel_rfl) opensB29))) (fun x : S31 => (x.f0, x.f1)) (fun p => ⟨p.1, p.2⟩) (fun _ => rfl)
abbrev mu33 : Bool × Int × Int × S31 × List (List S68) → Nat := fun x => 0 + (0 + (0 + ((muR x.2.2.2.1.f0 + muR x.2.2.2.1.f1) + muR x.2.2.2.2)))
theorem opensB33 : OpensB Try.prog 33 k33 mu33 := by
  have f5 : OpensFsB Try.prog [{ name := "All", type := 29, offset := 5, embedded := false, tag := "", pkgPath := "", byteOffset := 72 }] 5 (Kd.slice 61 (Kd.slice 68 k68)) muR := OpensFsB.one rfl (by kernel_rfl) opensB29
  have f4 := OpensFsB.cons (f := { name := "Rows", type := 31, offset := 3, embedded := false, tag := "", pkgPath := "", byteOffset := 24 }) (off := 3) rfl (by kernel_rfl) opensB31 f5
  have f3 := OpensFsB.cons (f := { name := "Events", type := 3, offset := 2, embedded := false, tag := "", pkgPath := "", byteOffset := 16 }) (off := 2) rfl (by kernel_rfl) (OpensB.leaf (Opens.int Try.underlying3)) f4
  have f2 := OpensFsB.cons (f := { name := "Now", type := 3, offset := 1, embedded := false, tag := "", pkgPath := "", byteOffset := 8 }) (off := 1) rfl (by kernel_rfl) (OpensB.leaf (Opens.int Try.underlying3)) f3
  have f1 := OpensFsB.cons (f := { name := "Tick", type := 4, offset := 0, embedded := false, tag := "", pkgPath := "", byteOffset := 0 }) (off := 0) rfl (by kernel_rfl) (OpensB.leaf (Opens.bool Try.underlying4)) f2
  exact OpensB.struct Try.underlying33 rfl (by kernel_rfl) f1
theorem opensB24 : OpensB Try.prog 24 (Kd.slice 33 k33) (muS mu33) := OpensB.slice Try.underlying24 (by kernel_rfl) opensB33
end Go.Proofs.Yteklabhmmfklbaa
