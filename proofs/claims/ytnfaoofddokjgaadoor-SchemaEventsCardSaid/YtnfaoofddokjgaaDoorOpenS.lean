import Derived.Test.YtnfaoofddokjgaaDoorOpen
import Derived.Test.YtnfaoofddokjgaaDoorPx0
import Derived.KernelRfl
namespace Go.Proofs.YtnfaoofddokjgaaDoor
open Go.WideShapes Go.RowKit
open Print Go.Proofs.YtnfaoofddokjgaaDoorW.PrintWords
def good38 (x : S38) : Prop := (Lit.int .i64 x.f0).wf = true ∧ (Lit.int .i64 x.f1).wf = true ∧ x.f2.size ≤ maxLen
def good40 (x : S40) : Prop := x.f0.size ≤ maxLen ∧ (Lit.int .i64 x.f1).wf = true
theorem opens38 : Opens Tryd.prog 38 k38 good38 :=
  (Opens.iso (Opens.struct Tryd.underlying38 rfl (by kernel_rfl) (OpensFs.cons rfl (by kernel_rfl) (Opens.int Tryd.underlying3) (OpensFs.cons rfl (by kernel_rfl) (Opens.int Tryd.underlying3) (OpensFs.one rfl (by kernel_rfl) (Opens.string Tryd.underlying9))))) (fun x : S38 => (x.f0, x.f1, x.f2)) (fun p => ⟨p.1, p.2.1, p.2.2⟩) (fun _ => rfl)).mono (fun _ h => h)
theorem opens40 : Opens Tryd.prog 40 k40 good40 :=
  (Opens.iso (Opens.struct Tryd.underlying40 rfl (by kernel_rfl) (OpensFs.cons rfl (by kernel_rfl) (Opens.string Tryd.underlying9) (OpensFs.one rfl (by kernel_rfl) (Opens.int Tryd.underlying3)))) (fun x : S40 => (x.f0, x.f1)) (fun p => ⟨p.1, p.2⟩) (fun _ => rfl)).mono (fun _ h => h)
theorem opens33 : Opens Tryd.prog 33 (Kd.slice 38 k38) (fun l => l.length ≤ maxLen ∧ ∀ x ∈ l, good38 x) := Opens.slice Tryd.underlying33 (by kernel_rfl) opens38
theorem opens22 : Opens Tryd.prog 22 (Kd.slice 40 k40) (fun l => l.length ≤ maxLen ∧ ∀ x ∈ l, good40 x) := Opens.slice Tryd.underlying22 (by kernel_rfl) opens40
theorem opens24 : Opens Tryd.prog 24 (Kd.pair Kd.string (Kd.slice 40 k40)) (fun p => p.1.size ≤ maxLen ∧ p.2.length ≤ maxLen ∧ ∀ x ∈ p.2, good40 x) :=
  (Opens.struct Tryd.underlying24 rfl (by kernel_rfl) (OpensFs.cons rfl (by kernel_rfl) (Opens.string Tryd.underlying9) (OpensFs.one rfl (by kernel_rfl) opens22))).mono (fun _ h => h)
theorem arg33 {H : Type} {enc : TypeId × Value → H} {W : World} {base b0 : Nat} {sp : Nat → Bool} {held : Bool} {v : Value} {d : DataW H} {p : List MemPlace} (hv : Value.okWide Tryd.prog W .any base 33 v) (h : DataW.Trod enc Tryd.prog W b0 sp held 33 v d p) :
    ∃ A c l, v = .slice A l.length c ∧ l.length ≤ c ∧ Kd.C k38 W A l.length l ∧ l.length ≤ maxLen ∧ ∀ x ∈ l, good38 x := by
  obtain ⟨a, len, cap, rfl⟩ := okWide_slice Tryd.underlying33 hv
  obtain ⟨m, hm⟩ := h
  obtain ⟨l, ⟨A, c, he, hl, hC⟩, hg⟩ := opens33 H enc W b0 sp held m _ _ hm
  simp only [Value.cells, List.cons.injEq, and_true] at he
  exact ⟨A, c, l, he, hl, hC, hg.1, hg.2⟩
theorem arg24 {H : Type} {enc : TypeId × Value → H} {W : World} {base b0 : Nat} {sp : Nat → Bool} {held : Bool} {v : Value} {d : DataW H} {p : List MemPlace} (hv : Value.okWide Tryd.prog W .any base 24 v) (h : DataW.Trod enc Tryd.prog W b0 sp held 24 v d p) :
    ∃ s A c l, v = .agg #[.string s, .slice A l.length c] ∧ s.size ≤ maxLen ∧ l.length ≤ c ∧ Kd.C k40 W A l.length l ∧ l.length ≤ maxLen ∧ ∀ x ∈ l, good40 x := by
  obtain ⟨cs, rfl, hsz⟩ := okWide_struct Tryd.underlying24 hv
  obtain ⟨m, hm⟩ := h
  obtain ⟨l, ⟨c0, c1, he, h0, A, c, h1, hl, hC⟩, hg⟩ := opens24 H enc W b0 sp held m _ _ hm
  refine ⟨l.1, A, c, l.2, ?_, hg.1, hl, hC, hg.2⟩
  have h0' : c0 = [.string l.1] := h0
  have he' : cs.toList = c0 ++ c1 := he
  rw [h0', h1] at he'
  have : cs = #[.string l.1, .slice A l.2.length c] := by apply Array.toList_inj.1; rw [he']; rfl
  rw [this]
theorem opens42 : Opens Tryd.prog 42 (Kd.pair (Kd.slice 38 k38) (Kd.slice 38 k38)) (fun p => (p.1.length ≤ maxLen ∧ ∀ x ∈ p.1, good38 x) ∧ (p.2.length ≤ maxLen ∧ ∀ x ∈ p.2, good38 x)) := Opens.array2 Tryd.underlying42 (by kernel_rfl) (by kernel_rfl) opens33
theorem arg42 {H : Type} {enc : TypeId × Value → H} {W : World} {base b0 : Nat} {sp : Nat → Bool} {held : Bool} {v : Value} {d : DataW H} {p : List MemPlace} (hv : Value.okWide Tryd.prog W .any base 42 v) (h : DataW.Trod enc Tryd.prog W b0 sp held 42 v d p) :
    ∃ A c l A' c' l', v = .agg #[.slice A l.length c, .slice A' l'.length c'] ∧ l.length ≤ c ∧ Kd.C k38 W A l.length l ∧ l'.length ≤ c' ∧ Kd.C k38 W A' l'.length l' ∧ l.length ≤ maxLen ∧ l'.length ≤ maxLen := by
  obtain ⟨cs, rfl⟩ : ∃ cs, v = .agg cs := by
    simp only [Value.okWide, Tryd.underlying42] at hv
    obtain ⟨cs, h1, _⟩ := hv
    exact ⟨cs, h1⟩
  obtain ⟨m, hm⟩ := h
  obtain ⟨l, ⟨c0, c1, he, ⟨A, c, h0, hl0, hC0⟩, ⟨A', c', h1, hl1, hC1⟩⟩, hg⟩ := opens42 H enc W b0 sp held m _ _ hm
  refine ⟨A, c, l.1, A', c', l.2, ?_, hl0, hC0, hl1, hC1, hg.1.1, hg.2.1⟩
  have he' : cs.toList = c0 ++ c1 := he
  rw [h0, h1] at he'
  have : cs = #[.slice A l.1.length c, .slice A' l.2.length c'] := by apply Array.toList_inj.1; rw [he']; rfl
  rw [this]
end Go.Proofs.YtnfaoofddokjgaaDoor
