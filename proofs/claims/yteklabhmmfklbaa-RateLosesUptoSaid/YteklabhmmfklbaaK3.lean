import Derived.Test.YteklabhmmfklbaaPx0
namespace Go.Proofs.Yteklabhmmfklbaa
open Go.RowKit Print Go.Proofs.YteklabhmmfklbaaW.PrintWords Go.Proofs.YteklabhmmfklbaaW.PrintLast Go.Proofs.YteklabhmmfklbaaW.PrintMore
set_option linter.unusedVariables false
/-! ### What a call keeps: all but the blocks of S and what is new; and nothing is told to the outer world -/
structure K3 (w W : World) (S : Nat → Prop) : Prop where
  size : w.heap.size ≤ W.heap.size
  block : ∀ i, i < w.heap.size → ¬ S i → W.heap[i]? = w.heap[i]?
  os : W.os = w.os
  tape : W.tape = w.tape
  output : W.output = w.output
namespace K3
variable {w W W2 : World} {S S2 S' : Nat → Prop}
theorem kept (h : K3 w W S) : Kept w W S := ⟨h.size, h.block⟩
theorem refl (w : World) (S : Nat → Prop) : K3 w w S := ⟨Nat.le_refl _, fun _ _ _ => rfl, rfl, rfl, rfl⟩
theorem of_below (h : Below w.heap.size w W) (S : Nat → Prop) : K3 w W S := ⟨h.size, fun i hi _ => h.block i hi, h.os, h.tape, h.output⟩
theorem mono (h : K3 w W S) (hs : ∀ k, S k → S' k) : K3 w W S' := ⟨h.1, fun i hi hn => h.2 i hi (fun hk => hn (hs i hk)), h.os, h.tape, h.output⟩
theorem then_ (h : K3 w W S) (k : K3 W W2 S2) (hs : ∀ k, S2 k → S k ∨ w.heap.size ≤ k) : K3 w W2 S :=
  ⟨Nat.le_trans h.1 k.1, (h.kept.then_ k.kept hs).2, k.os.trans h.os, k.tape.trans h.tape, k.output.trans h.output⟩
theorem of_grown {row : Option Nat} (hg : W.grownBy W2 row) (h : K3 w W S) (hr : ∀ k, row = some k → S k ∨ w.heap.size ≤ k) : K3 w W2 S :=
  h.then_ (S2 := fun k => row = some k) ⟨hg.size, fun i hi hn => hg.block i hi (fun he => hn he.symm), hg.os, hg.tape, hg.output⟩ hr
theorem below (h : K3 w W S) (hb : Below W.heap.size W W2) : K3 w W2 S := h.then_ (of_below hb (fun _ => False)) (fun _ hk => hk.elim)
theorem alloc (h : K3 w W S) (o : Obj) : K3 w (W.alloc o) S := h.below (below_alloc (Below.refl _ _) o)
theorem drew (h : K3 w W S) : K3 w W.drew S := ⟨h.1, h.2, h.os, h.tape, h.output⟩
theorem drewN (h : K3 w W S) (m : Nat) : K3 w (W.drewN m) S := ⟨h.1, h.2, h.os, h.tape, h.output⟩
theorem setCell (h : K3 w W S) {p : Addr} (hp : S p.block ∨ w.heap.size ≤ p.block) (u : Value) : K3 w (W.setCell p u) S :=
  h.then_ (S2 := fun k => k = p.block) ⟨by simp [World.setCell], fun i _ hn => Below.heap_setCell W p u i hn, rfl, rfl, rfl⟩ (fun k hk => by rw [hk]; exact hp)
theorem R {α : Type} {d : Kd α} {e base : Nat} {ok : Nat → Prop} {v : Value} {xs : List α} (h : d.R e W base ok v xs) (hk : K3 W W2 S) (hne : ∀ k, ok k → ¬ S k) : d.R e W2 base ok v xs := Kd.R_kept h hk.kept hne
theorem F {α : Type} {d : Kd α} {n : Nat} {ok : Nat → Prop} {A : Option Addr} {xs : List α} (h : Kd.F d W ok A n xs) (hk : K3 W W2 S) (hne : ∀ k, ok k → ¬ S k) : Kd.F d W2 ok A n xs := Kd.F_kept h hk.kept hne
theorem blk {g : Nat} {o : Obj} (hb : W.heap[g]? = some o) (hk : K3 W W2 S) (hne : ¬ S g) : W2.heap[g]? = some o := blk_kept hb hk.kept hne
/-- Nothing elder than w0 was touched. -/
theorem to_below {w0 : World} (h0 : Below w0.heap.size w0 w) (h : K3 w W S) (hs : ∀ k, S k → w0.heap.size ≤ k) : Below w0.heap.size w0 W :=
  ⟨h.os.trans h0.os, h.tape.trans h0.tape, h.output.trans h0.output, Nat.le_trans h0.size h.size, fun k hk => (h.block k (Nat.lt_of_lt_of_le hk h0.size) (fun h' => by have := hs k h'; omega)).trans (h0.block k hk)⟩
end K3
end Go.Proofs.Yteklabhmmfklbaa
