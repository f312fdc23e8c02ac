import Derived.Test.YtiabggpijomjmaaDoorX10
import Derived.Test.YtiabggpijomjmaaDoorOpenB
namespace Go.Proofs.YtiabggpijomjmaaDoor
open Go.ChangeShapes Go.WideShapes Go.ChangeAt Go.RowKit Go.Deep Print
open Go.Proofs.YtiabggpijomjmaaDoorW.PrintWords
set_option linter.unusedVariables false
abbrev mu44 : S44 → Nat := fun x => 0 + (0 + muS mu53 x.f2)
def good44 (x : S44) : Prop := (Lit.int .i64 x.f0).wf = true ∧ (Lit.int .i64 x.f1).wf = true ∧ ∀ y ∈ x.f2, good53 y
theorem opensB44 : OpensB Tryd.prog 44 k44 mu44 good44 :=
  (OpensB.iso (OpensB.struct Tryd.underlying44 rfl (by kernel_rfl) (OpensFsB.cons rfl (by kernel_rfl) (OpensB.leaf (Opens.int Tryd.underlying3)) (OpensFsB.cons rfl (by kernel_rfl) (OpensB.leaf (Opens.int Tryd.underlying3)) (OpensFsB.one rfl (by kernel_rfl) opensB22)))) (fun x : S44 => (x.f0, x.f1, x.f2)) (fun p => ⟨p.1, p.2.1, p.2.2⟩) (fun _ => rfl)).mono (fun _ h => h)
theorem opensB36 : OpensB Tryd.prog 36 (Kd.slice 44 k44) (muS mu44) (fun xs => ∀ x ∈ xs, good44 x) := OpensB.slice Tryd.underlying36 (by kernel_rfl) opensB44
theorem arg36 {H : Type} {enc : TypeId × Value → H} {W : World} {base b0 : Nat} {sp : Nat → Bool} {held : Bool} {v : Value} {d : DataW H} {p : List MemPlace} (hv : Value.okWide Tryd.prog W .any base 36 v) (h : DataW.Trod enc Tryd.prog W b0 sp held 36 v d p) :
    ∃ A c l, v = .slice A (List.length l) c ∧ l.length ≤ c ∧ Kd.C k44 W A l.length l ∧ muS mu44 l + 1 ≤ Rows.uptoBulk d ∧ ∀ x ∈ l, good44 x := by
  obtain ⟨a, len, cap, rfl⟩ := okWide_slice Tryd.underlying36 hv
  obtain ⟨m, hm⟩ := h
  obtain ⟨l, ⟨A, c, he, hl, hC⟩, hb, hg⟩ := opensB36 H enc W b0 sp held m _ _ hm
  have he' : [Value.slice a len cap] = [Value.slice A l.length c] := he
  injection he' with he' _
  exact ⟨A, c, l, he', hl, hC, hb, hg⟩
theorem mem_sum : ∀ (ns : List Nat) (x : Nat), x ∈ ns → x ≤ ns.sum
  | [], _, h => by simp at h
  | a :: ns, x, h => by
    rcases List.mem_cons.1 h with rfl | h
    · simp
    · have := mem_sum ns x h; simp only [List.sum_cons]; omega
theorem ops_ok {l : List S44} (hb : muS mu44 l ≤ 1048576) (hg : ∀ x ∈ l, good44 x) : l.length ≤ 1048576 ∧ ∀ x ∈ l, OpOk x := by
  have h0 : (l.map mu44).sum + l.length ≤ 1048576 := hb
  refine ⟨by omega, fun x hx => ⟨⟨fun y hy => in64_good ((hg x hx).2.2 y hy), ?_⟩, ?_⟩⟩
  · have h1 := mem_sum (l.map mu44) (mu44 x) (List.mem_map_of_mem hx)
    have h2 : mu44 x = muS mu53 x.f2 := by show 0 + (0 + _) = _; omega
    omega
  · have := (hg x hx).2.1
    simp only [Lit.wf, Bool.and_eq_true, decide_eq_true_eq] at this
    have a1 : IntKind.i64.min = -9223372036854775808 := by decide
    have a2 : IntKind.i64.max = 9223372036854775807 := by decide
    rw [a1, a2] at this
    exact this
end Go.Proofs.YtiabggpijomjmaaDoor
