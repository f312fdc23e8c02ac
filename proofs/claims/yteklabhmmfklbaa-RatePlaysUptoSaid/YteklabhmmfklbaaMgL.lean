import Derived.Test.YteklabhmmfklbaaMgF
import Derived.Test.YteklabhmmfklbaaMgX
import Derived.Test.YteklabhmmfklbaaMgP
import Derived.Test.YteklabhmmfklbaaSplitE
import Derived.Test.YteklabhmmfklbaaMgS
import Derived.Test.YteklabhmmfklbaaSplitW
namespace Go.Proofs.Yteklabhmmfklbaa
open Go.RowKit Print Go.Proofs.YteklabhmmfklbaaW.PrintWords Go.Proofs.YteklabhmmfklbaaW.PrintLast Go.Proofs.YteklabhmmfklbaaW.PrintMore
set_option linter.unusedVariables false
/-! ### The document's rate among the things that lie apart -/
section
variable {w w' W : World} {L L1 L2 : List Asr} {W1 : World} {g : Nat} {s s' : St} {ri ro ri' ro' all xs ys : RowsL} {v v0 v1 v2 : Value} {ds : List S43} {F : Nat → Prop}
theorem XB.to {ok ok' : Nat → Prop} {vi vo : Value} (h : XB w g ok s vi vo ri ro) (hok : ∀ k, ok k → ok' k) (hg : ¬ ok' g) (hl : ∀ k, ok' k → k < w.heap.size) : XB w g ok' s vi vo ri ro :=
  ⟨h.at_, h.ri.mono hok, h.ro.mono hok, hg, hl⟩
structure XrP (W1 : World) (g : Nat) (s : St) (ri ro : RowsL) (v : Value) (ds : List S43) (w : World) (F : Nat → Prop) : Prop where
  b : ∃ vi vo, XB w g (fun k => F k ∧ k ≠ g) s vi vo ri ro
  d : Nd w (fun k => F k ∧ k ≠ g) v ds
  gF : F g
  old : ∀ k, k < W1.heap.size → F k
  new : W1.heap.size ≤ g
  bel : Below W1.heap.size W1 w
  lt : ∀ k, F k → k < w.heap.size
/-- The document's rate, with what it told last, and all that is elder than W1. -/
def Xr (W1 : World) (g : Nat) (s : St) (ri ro : RowsL) (v : Value) (ds : List S43) : Asr where
  P w F := XrP W1 g s ri ro v ds w F
  lt h := h.lt
  keep h hk hd := ⟨by
    obtain ⟨vi, vo, hb⟩ := h.b
    exact ⟨vi, vo, hb.kept hk (hd _ h.gF) (fun k hk' => hd k hk'.1)⟩, Kd.N_kept h.d hk.kept (fun k hk' => hd k hk'.1), h.gF, h.old, h.new, K3.to_below h.bel hk (fun k hs => Nat.le_of_not_lt (fun hl => hd k (h.old k hl) hs)), fun k hf => Nat.lt_of_lt_of_le (h.lt k hf) hk.1⟩
theorem Xr.drop (h : Apart w (Xr W1 g s ri ro v ds :: L)) : Apart w (Xr W1 g s ri ro nilV [] :: L) := by
  obtain ⟨F, hx, hd, hl⟩ := h
  exact ⟨F, ⟨hx.b, Kd.N_nil _ _ _ _ _, hx.gF, hx.old, hx.new, hx.bel, hx.lt⟩, hd, hl⟩
theorem Xr.below (h : Apart w (Xr W1 g s ri ro v ds :: L)) : Below W1.heap.size W1 w := by
  obtain ⟨F, hx, hd, hl⟩ := h
  exact hx.bel
theorem Xr.at_ (h : Apart w (Xr W1 g s ri ro v ds :: L)) : ∃ vi vo, At 53 w g s vi vo := by
  obtain ⟨F, hx, hd, hl⟩ := h
  obtain ⟨vi, vo, hb⟩ := hx.b
  exact ⟨vi, vo, hb.at_⟩
/-- A step of one thing into a like one. -/
theorem sep_x {B : Asr} {F F' : Nat → Prop} (hl : Sep W L F) (hK : K3 W w' (fun k => k = g)) (hg : F g) (hB : B.P w' F') (hF' : ∀ k, F' k → F k ∨ W.heap.size ≤ k) : Apart w' (B :: L) :=
  ⟨F', hB, fun _ _ h => h, hl.frame hK (fun k e => by rw [e]; exact hg) (fun k hk => hk.elim False.elim (hF' k))⟩
/-- What has grown. -/
theorem xr_told {R : St × RowsL × RowsL × List S43} {okR : Nat → Prop} {vi vo : Value} (hx : XrP W1 g s ri ro nilV [] W F) (hB : XB w' g okR R.1 vi vo R.2.1 R.2.2.1) (hR : ∀ k, okR k → (F k ∧ k ≠ g) ∨ W.heap.size ≤ k) (hN : Nd w' (fun k => (F k ∧ k ≠ g) ∨ W.heap.size ≤ k) v R.2.2.2) (hK : K3 W w' (fun k => k = g)) :
    XrP W1 g R.1 R.2.1 R.2.2.1 v R.2.2.2 w' (fun k => F k ∨ (W.heap.size ≤ k ∧ k < w'.heap.size)) := by
  have hgl := hx.lt g hx.gF
  have hs := hK.1
  refine ⟨⟨vi, vo, hB.to (fun k hk => ?_) (fun h => h.2 rfl) (fun k hk => hk.1.elim (fun h => Nat.lt_of_lt_of_le (hx.lt k h) hs) (·.2))⟩, Kd.N_mono (Kd.N_bound hN) (fun k hk => ?_), .inl hx.gF, fun k hk => .inl (hx.old k hk), hx.new, K3.to_below hx.bel hK (fun k e => by rw [e]; exact hx.new), fun k hk => hk.elim (fun h => Nat.lt_of_lt_of_le (hx.lt k h) hs) (·.2)⟩
  · have hl := hB.lR k hk
    rcases hR k hk with h | h
    · exact ⟨.inl h.1, h.2⟩
    · exact ⟨.inr ⟨h, hl⟩, by omega⟩
  · rcases hk.1 with h | h
    · exact ⟨.inl h.1, h.2⟩
    · exact ⟨.inr ⟨h, hk.2⟩, by omega⟩
theorem xadv_sep {m : Nat} (now : Int) (h : Apart w (Xr W1 g s ri ro nilV [] :: L)) (hW : Below w.heap.size w W) (hG : Good s) (ha : Rd W1 (fun k => k < W1.heap.size) v0 all) (hmany : s.t = true → mn now late + 1 - s.border ≤ 4002 * s.n) (he : xadv s ri ro now all = (s', ri', ro', ds)) (hm : ds.length = m) :
    Calls Try.prog 20 #[.pointer (some ⟨g, 0, none⟩), .int .i64 now, v0] W (fun e w' => ∃ A3 c3, e = .returned (.slice A3 m c3) ∧ Apart w' (Xr W1 g s' ri' ro' (.slice A3 m c3) ds :: L)) := by
  obtain ⟨F, hx, hd, hl⟩ := h.onto hW
  obtain ⟨vi, vo, hB⟩ := hx.b
  have hn := hx.new
  refine (xadv_any g s vi vo v0 ri ro all _ (fun k => k < W1.heap.size) now W hB hG (ha.below hx.bel) (fun h => by omega) (fun k hk => hx.lt k (hx.old k hk)) hmany).mono fun e w2 ⟨v, vi2, vo2, hv, hB2, hN2, hK2, hown⟩ => ?_
  rw [he] at hB2 hN2
  have hp := xr_told (R := (s', ri', ro', ds)) hx hB2 (fun k hk => .inl hk) (Kd.N_mono hN2 (fun k hk => hk.imp (fun h => h.elim id (fun h => ⟨hx.old k h, by omega⟩)) id)) hK2
  obtain ⟨A3, c3, rfl⟩ := Kd.N_slice hN2
  subst hm
  exact ⟨A3, c3, hv, sep_x (F := F) (hl.mono (fun k hk => .inr hk)) hK2 hx.gF hp (fun k hk => hk.imp id (·.1))⟩
theorem xfeed_sep {m : Nat} (now ev : Int) (h : Apart w (Xr W1 g s ri ro nilV [] :: L)) (hW : Below w.heap.size w W) (hG : Good s) (h1 : Rd W1 (fun k => k < W1.heap.size) v1 xs) (h2 : Rd W1 (fun k => k < W1.heap.size) v2 ys) (ha : Rd W1 (fun k => k < W1.heap.size) v0 all)
    (hev : 0 ≤ s.events ∧ s.events ≤ late) (hzi : ri.length + xs.length ≤ 4194304) (hzo : ro.length + ys.length ≤ 4194304) (hmany : s.t = true → mn (mn (mx now s.clock) late) late + 1 - s.border ≤ 4002 * s.n) (he : xfeed s ri ro now ev xs ys all = (s', ri', ro', ds)) (hm : ds.length = m) :
    Calls Try.prog 21 #[.pointer (some ⟨g, 0, none⟩), .int .i64 now, .int .i64 ev, .agg #[v1, v2], v0] W (fun e w' => ∃ A3 c3, e = .returned (.slice A3 m c3) ∧ Apart w' (Xr W1 g s' ri' ro' (.slice A3 m c3) ds :: L)) := by
  obtain ⟨F, hx, hd, hl⟩ := h.onto hW
  obtain ⟨vi, vo, hB⟩ := hx.b
  have hn := hx.new
  refine (xfeed_any g s vi vo v0 v1 v2 ri ro xs ys all _ (fun k => k < W1.heap.size) now ev W hB hG (h1.below hx.bel) (h2.below hx.bel) (ha.below hx.bel) (fun h => by omega) (fun k hk => hx.lt k (hx.old k hk)) hev hzi hzo hmany).mono fun e w2 ⟨v, hv, vi2, vo2, okR', hB2, hN2, hK2, hok, hown⟩ => ?_
  rw [he] at hB2 hN2
  have hE : ∀ k, okE W (fun k => F k ∧ k ≠ g) (fun k => k < W1.heap.size) k → (F k ∧ k ≠ g) ∨ W.heap.size ≤ k := fun k hk => hk.imp (fun h => h.elim id (fun h => ⟨hx.old k h, by omega⟩)) id
  have hp := xr_told (R := (s', ri', ro', ds)) hx hB2 (fun k hk => hE k (hok k hk).1) (Kd.N_mono hN2 hE) hK2
  obtain ⟨A3, c3, rfl⟩ := Kd.N_slice hN2
  subst hm
  exact ⟨A3, c3, hv, sep_x (F := F) (hl.mono (fun k hk => .inr hk)) hK2 hx.gF hp (fun k hk => hk.imp id (·.1))⟩
theorem xnew_sep (k n : Int) (t : Bool) (now : Int) (h : Apart w (Old W1 :: L)) (hW : Below w.heap.size w W) (hc : marqueeref20_Check.f 4 k n t = some 0) (n0 : 0 ≤ now) (n1 : now ≤ 1152921504606846976) (hn0 : 0 ≤ n) (hn1 : n ≤ 1099511627776) :
    Calls Try.prog 16 #[.agg #[.int .i64 k, .int .i64 n, .bool t], .int .i64 now] W (fun e w' => ∃ g, e = .returned (.pointer (some ⟨g, 0, none⟩)) ∧ Apart w' (Xr W1 g ⟨k, n, t, now, now + n, 0, false⟩ [] [] nilV [] :: L)) := by
  obtain ⟨F, hx, hd, hl⟩ := h.onto hW
  refine (xnew_any k n t now W hc n0 n1 hn0 hn1).mono fun e w2 ⟨g, he, hg, hA, hb⟩ => ⟨g, he, fun k => F k ∨ k = g, ?_, fun _ _ h => h, ?_⟩
  · have hlt : ∀ k, F k → k < W.heap.size := fun k hk => Nat.lt_of_lt_of_le ((hx.1 k).1 hk) hx.2.size
    have hs := hb.size
    exact ⟨⟨nilV, nilV, hA, Rd.nil _ _, Rd.nil _ _, fun h => h.2 rfl, fun k hk => hk.1.elim (fun h => Nat.lt_of_lt_of_le (hlt k h) hs) (fun e => absurd e hk.2)⟩, Kd.N_nil _ _ _ _ _, .inr rfl, fun k hk => .inl ((hx.1 k).2 hk), Nat.le_trans hx.2.size hg, below_step hx.2 hb, fun k hk => hk.elim (fun h => Nat.lt_of_lt_of_le (hlt k h) hs) (fun e => by rw [e]; exact hA.lt)⟩
  · exact hl.frame (K3.of_below hb (fun _ => False)) (fun _ h => h.elim) (fun k hk => hk.elim False.elim (fun h => h.elim (fun h => .inl (.inr h)) (fun e => .inr (by rw [e]; exact hg))))
theorem xnext_sep {j : Nat} (h : Apart w L) (hj : pick j L = Xr W1 g s ri ro v ds :: L1) (hW : Below w.heap.size w W) (hi : Sm ri) (ho : Sm ro) :
    Calls Try.prog 23 #[.pointer (some ⟨g, 0, none⟩)] W fun e w' => e = .returned (.tuple #[.int .i64 (nextD s ri ro).1, .bool (nextD s ri ro).2]) ∧ Apart w' L := by
  have h2 := h.onto hW
  have h3 := h2.pick j
  rw [hj] at h3
  obtain ⟨F, hx, _⟩ := Sep.out h3
  obtain ⟨vi, vo, hB⟩ := hx.b
  have hi1 := hi.1
  have ho1 := ho.1
  obtain ⟨A0, c0, rfl, _⟩ := id hB.ri
  obtain ⟨A1, c1, rfl, _⟩ := id hB.ro
  refine (xnext_at g s A0 _ c0 A1 _ c1 W hB.at_ (by omega) (by omega)).mono fun e w' ⟨he, hb⟩ => ⟨?_, h2.onto hb⟩
  rw [he]
  unfold nextD
  by_cases hc : s.t = false ∨ (ri.length + ro.length = 0 ∧ s.told = false ∧ s.k ≠ 4)
  · rw [if_pos hc, if_pos hc, if_pos hc]
  · rw [if_neg hc, if_neg hc, if_neg hc]
theorem xlen_sep {j : Nat} {m : Int} (h : Apart w L) (hj : pick j L = Xr W1 g s ri ro v ds :: L1) (hW : Below w.heap.size w W) (hi : Sm ri) (ho : Sm ro) (hm : (ri.length : Int) + ro.length = m) :
    Calls Try.prog 24 #[.pointer (some ⟨g, 0, none⟩)] W fun e w' => e = .returned (.int .i64 m) ∧ Apart w' L := by
  subst hm
  have h2 := h.onto hW
  have h3 := h2.pick j
  rw [hj] at h3
  obtain ⟨F, hx, _⟩ := Sep.out h3
  obtain ⟨vi, vo, hB⟩ := hx.b
  have hi1 := hi.1
  have ho1 := ho.1
  obtain ⟨A0, c0, rfl, _⟩ := id hB.ri
  obtain ⟨A1, c1, rfl, _⟩ := id hB.ro
  exact (xlen_at g s A0 _ c0 A1 _ c1 W hB.at_ (by omega) (by omega)).mono fun e w' ⟨he, hb⟩ => ⟨he, h2.onto hb⟩
theorem xsame {A A' : Option Addr} {n n' c c' i j : Nat} (h : Apart w L) (hi : pick i L = Dl (.slice A n c) ds :: L1) (hj : pick j L = Xr W1 g s ri ro (.slice A' n' c') ds :: L2) (hW : Below w.heap.size w W) (hs : SmD ds) :
    Calls Try.prog 13 #[.slice A n c, .slice A' n' c'] W (fun e w' => e = .returned (.bool true) ∧ Apart w' L) := by
  have h2 := h.onto hW
  have h3 := h2.pick i
  have h4 := h2.pick j
  rw [hi] at h3
  rw [hj] at h4
  obtain ⟨F, ⟨hR, _⟩, _⟩ := h3
  obtain ⟨F', hx, _⟩ := h4
  obtain ⟨rfl, hcc, hC0⟩ := Kd.R_reads' hR
  obtain ⟨rfl, hcc', hC0'⟩ := Kd.N_reads' hx.d
  exact (same_any A c A' c' ds W hC0 hcc hC0' hcc' hs).mono fun e w' ⟨he, hb⟩ => ⟨he, h2.onto hb⟩
/-! #### writing over -/
theorem spoil_rw {A : Option Addr} {n c : Nat} {l : RowsL} (h : Apart w (Rw (.slice A n c) l :: L)) (hW : Below w.heap.size w W) (hs : Sm l) :
    Calls Try.prog 22 #[.slice A n c] W (fun e w' => e = .returned (.tuple #[]) ∧ Apart w' L) := by
  obtain ⟨F, hR, hd, hl⟩ := h.onto hW
  have hw := WvsP.of hR.1 hs
  obtain ⟨A', c', e, _⟩ := id hw
  cases e
  refine (spoil_any A _ c W hw).mono fun e w2 ⟨he, hsh⟩ => ⟨he, ?_⟩
  exact hl.frame hsh.k3 (fun k hk => .inr hk) (fun k hk => hk.elim)
theorem dl_dls {A : Option Addr} {n c : Nat} (h : Apart w (Dl (.slice A n c) ds :: L)) (hs : SmD ds) : Apart w (Dls (.slice A n c) n :: L) := by
  obtain ⟨F, hR, hd, hl⟩ := h
  have hw := DsP.of hR.1 hs
  obtain ⟨A', c', e, _⟩ := id hw
  cases e
  exact ⟨F, ⟨hw, hR.2⟩, hd, hl⟩
theorem dls_at {A : Option Addr} {n c : Nat} (h : Apart w (Dls (.slice A n c) n :: L)) (i : Int) (h0 : 0 ≤ i) (h1 : i < n) :
    ∃ ad B1 n1 c1 B2 n2 c2, A = some ad ∧ n ≤ c ∧ w.cell? ⟨(ad.add (i.toNat * 3)).block, (ad.add (i.toNat * 3)).off + 1, none⟩ = some (.slice B1 n1 c1) ∧ w.cell? ⟨(ad.add (i.toNat * 3)).block, (ad.add (i.toNat * 3)).off + 2, none⟩ = some (.slice B2 n2 c2) ∧
      (∀ W, Below w.heap.size w W → Calls Try.prog 22 #[.slice B1 n1 c1] W (fun e w' => e = .returned (.tuple #[]) ∧ Apart w' (Dls (.slice A n c) n :: L))) ∧ (∀ W, Below w.heap.size w W → Calls Try.prog 22 #[.slice B2 n2 c2] W (fun e w' => e = .returned (.tuple #[]) ∧ Apart w' (Dls (.slice A n c) n :: L))) := by
  obtain ⟨F, ⟨hw, hlt⟩, hd, hl⟩ := id h
  obtain ⟨A', c', e, hh⟩ := id hw
  cases e
  obtain ⟨g0, cur, rfl, hF, hb, hc, hj⟩ := hh (by omega)
  obtain ⟨u1, n1, u2, n2, q1, q2, a1, a2⟩ := hj i.toNat (by omega)
  obtain ⟨B1, c1, e1, _⟩ := id a1
  obtain ⟨B2, c2, e2, _⟩ := id a2
  subst e1 e2
  have hsp : ∀ {B : Option Addr} {m d : Nat}, WvsP w F (.slice B m d) m → ∀ W, Below w.heap.size w W → Calls Try.prog 22 #[.slice B m d] W (fun e w' => e = .returned (.tuple #[]) ∧ Apart w' (Dls (.slice (some ⟨g0, 0, none⟩) n c) n :: L)) := fun {B m d} hb W hW => by
    have hk := K3.of_below hW (fun _ => False)
    refine (spoil_any B m d W (hb.kept hk (fun _ _ h => h))).mono fun e w2 ⟨he, hsh⟩ => ⟨he, F, ⟨(hw.kept hk (fun _ _ h => h)).shp hsh, fun k hk' => by rw [hsh.sz]; exact Nat.lt_of_lt_of_le (hlt k hk') hW.size⟩, hd, ?_⟩
    exact (hl.below hW).frame hsh.k3 (fun k hk => .inr hk) (fun k hk => .inl hk)
  have ea : (⟨g0, 0, none⟩ : Addr).add (i.toNat * 3) = ⟨g0, i.toNat * 3, none⟩ := by
    by_cases hz : i.toNat * 3 = 0
    · rw [hz]; simp [Addr.add]
    · simp [Addr.add, hz]
  refine ⟨_, B1, n1, c1, B2, n2, c2, rfl, hc, ?_, ?_, hsp a1, hsp a2⟩
  · rw [ea]
    exact (blk_cell hb _).trans q1
  · rw [ea]
    exact (blk_cell hb _).trans q2
/-! #### a block that is held -/
def Blk (b : Nat) (cs : Array Value) (t : TypeId) : Asr where
  P w F := w.heap[b]? = some (.cells cs t (0, 0)) ∧ F b ∧ ∀ k, F k → k < w.heap.size
  lt h := h.2.2
  keep h hk hd := ⟨K3.blk h.1 hk (hd _ h.2.1), h.2.1, fun k hf => Nat.lt_of_lt_of_le (h.2.2 k hf) hk.1⟩
theorem Blk.new {cs : Array Value} {t : TypeId} (h : Apart w L) : Apart (w.alloc (.cells cs t)) (Blk w.heap.size cs t :: L) :=
  Sep.new (F := fun k => k = w.heap.size) h (below_alloc (Below.refl _ _) _) ⟨by simpa using heap_alloc_new w (.cells cs t), rfl, fun k hk => by rw [hk]; simp⟩ (fun k hk => by rw [hk]; exact Nat.le_refl _)
theorem Blk.get {b : Nat} {cs : Array Value} {t : TypeId} (h : Apart w (Blk b cs t :: L)) : w.heap[b]? = some (.cells cs t (0, 0)) := by
  obtain ⟨F, hb, _⟩ := h
  exact hb.1
theorem Blk.set {b : Nat} {cs : Array Value} {t : TypeId} (h : Apart w (Blk b cs t :: L)) (i : Nat) (u : Value) : Apart (w.setCell ⟨b, i, none⟩ u) (Blk b (cs.setIfInBounds i u) t :: L) := by
  obtain ⟨F, hb, hd, hl⟩ := h
  have hk : K3 w (w.setCell ⟨b, i, none⟩ u) F := (K3.refl w F).setCell (p := ⟨b, i, none⟩) (.inl hb.2.1) u
  exact ⟨F, ⟨blk_set hb.1 i u, hb.2.1, fun k hk' => Nat.lt_of_lt_of_le (hb.2.2 k hk') hk.1⟩, hd, hl.frame hk (fun k h => .inr h) (fun k h => .inl h)⟩
/-! #### the program's side: the snapshot's rows are one's own -/
theorem twin_sep {A : Option Addr} {c : Nat} {l : RowsL} (h : Apart w L) (hW : Below w.heap.size w W) (ha : kR.C W A l.length l) (hc : l.length ≤ c) (hs : Sm l) :
    Calls Try.prog 19 #[.slice A l.length c] W (fun e w' => ∃ A' c', e = .returned (.slice A' l.length c') ∧ Apart w' (Rw (.slice A' l.length c') l :: L)) := by
  refine (twin_any A c l W ha hc hs).mono fun e w2 ⟨v, he, hR, hb⟩ => ?_
  obtain ⟨A', c', rfl⟩ := Kd.R_slice hR
  exact ⟨A', c', he, Sep.new (F := fun k => W.heap.size ≤ k ∧ k < w2.heap.size) (h.onto hW) hb ⟨Kd.R_mono (Kd.R_bound (Kd.R_lower hR (Nat.zero_le _))) (fun k hk => ⟨hk.1, hk.2.2.1⟩), fun k hk => hk.2⟩ (fun k hk => hk.1)⟩
theorem adv_own {A : Option Addr} {n m c : Nat} (now : Int) (h : Apart w (Rt g s ri ro :: Rw (.slice A n c) all :: L)) (hW : Below w.heap.size w W) (hG : Good s) (hi : Sm ri) (ho : Sm ro) (hs : Sm all) (hmany : s.t = true → mn now late + 1 - s.border ≤ 4002 * s.n)
    (he : adv s ri ro now all = (s', ri', ro', ds)) (hm : ds.length = m) :
    Calls Try.prog 11 #[.pointer (some ⟨g, 0, none⟩), .int .i64 now, .slice A n c] W (fun e w' => ∃ A3 c3, e = .returned (.slice A3 m c3) ∧ Apart w' (Rt g s' ri' ro' :: Dl (.slice A3 m c3) ds :: Rw (.slice A n c) all :: L)) := by
  obtain ⟨F, hR, d3, hl⟩ := Sep.out (h.onto hW)
  obtain ⟨F1, h1, d1, q1⟩ := Sep.out hl
  have hl := hl.mono (U' := F) (fun k hk => .inr hk)
  replace h1 := h1.1
  obtain ⟨rfl, c1, _⟩ := Kd.R_reads' h1
  subst hm
  exact adv_core now hR hl hG hi ho (Kd.R_F h1) c1 hs (fun k hk hF => d1 k hk (.inr hF)) hmany he
theorem feed_own {A A1 A2 : Option Addr} {n c n1 c1 n2 c2 m : Nat} (now ev : Int) (h : Apart w (Rt g s ri ro :: Rw (.slice A1 n1 c1) xs :: Rw (.slice A2 n2 c2) ys :: Rw (.slice A n c) all :: L)) (hW : Below w.heap.size w W) (hf : Fits s ri ro now xs ys all)
    (he : feed s ri ro now ev xs ys all = (s', ri', ro', ds)) (hm : ds.length = m) :
    Calls Try.prog 10 #[.pointer (some ⟨g, 0, none⟩), .int .i64 now, .int .i64 ev, .agg #[.slice A1 n1 c1, .slice A2 n2 c2], .slice A n c] W (fun e w' => ∃ A3 c3, e = .returned (.slice A3 m c3) ∧ Apart w' (Rt g s' ri' ro' :: Dl (.slice A3 m c3) ds :: Rw (.slice A1 n1 c1) xs :: Rw (.slice A2 n2 c2) ys :: Rw (.slice A n c) all :: L)) := by
  obtain ⟨F, hR, d3, hl⟩ := Sep.out (h.onto hW)
  obtain ⟨F1, h1, d1, q1⟩ := Sep.out hl
  obtain ⟨F2, h2, d2, q2⟩ := Sep.out q1
  obtain ⟨F0, h0, d0, q0⟩ := Sep.out q2
  have hl := hl.mono (U' := F) (fun k hk => .inr hk)
  replace h1 := h1.1
  replace h2 := h2.1
  replace h0 := h0.1
  obtain ⟨rfl, l1, _⟩ := Kd.R_reads' h1
  obtain ⟨rfl, l2, _⟩ := Kd.R_reads' h2
  obtain ⟨rfl, l0, _⟩ := Kd.R_reads' h0
  subst hm
  exact feed_core (okX := fun k => (F1 k ∨ F2 k) ∨ F0 k) now ev hR hl hf (Kd.F_mono (Kd.R_F h1) (fun k hk => .inl (.inl hk))) l1 (Kd.F_mono (Kd.R_F h2) (fun k hk => .inl (.inr hk))) l2 (Kd.F_mono (Kd.R_F h0) (fun k hk => .inr hk)) l0
    (fun k hk hF => hk.elim (fun h => h.elim (fun h => d1 k h (.inr hF)) (fun h => d2 k h (.inl (.inr hF)))) (fun h => d0 k h (.inl (.inl (.inr hF))))) he
end
end Go.Proofs.Yteklabhmmfklbaa
namespace Go.Proofs.Yteklabhmmfklbaa
open Go.RowKit Print Go.Proofs.YteklabhmmfklbaaW.PrintWords Go.Proofs.YteklabhmmfklbaaW.PrintLast Go.Proofs.YteklabhmmfklbaaW.PrintMore
set_option linter.unusedVariables false
/-! ### RatePlays: one operation, plainly -/
theorem many_f2 (k n : Int) (t : Bool) (clock now : Int) (h0 : 0 ≤ clock) (h1 : now ≤ 1152921504606846976) : marqueelaw20_many.f k n t clock now = some (decide (manyP n t clock now)) := by
  unfold marqueelaw20_many.f
  by_cases ht : t = true
  · rw [if_pos ht]
    by_cases hn : n > 0
    · rw [if_pos hn]
      by_cases hl : now > clock
      · have hd : 0 ≤ now - clock := by omega
        have hq : 0 ≤ (now - clock) / n := Int.ediv_nonneg hd (by omega)
        have hq2 : (now - clock) / n ≤ now - clock := Int.ediv_le_self _ hd
        have e1 : wrap64 (now - clock) = now - clock := w64 ⟨by omega, by omega⟩
        rw [if_pos hl, if_neg (by omega), e1, Int.tdiv_eq_ediv_of_nonneg hd, w64 ⟨by omega, by omega⟩]
        by_cases hz : (now - clock) / n > 2000
        · rw [decide_eq_true hz, decide_eq_true (show manyP n t clock now from ⟨ht, by omega, by omega, by omega⟩)]
        · rw [decide_eq_false hz, decide_eq_false (show ¬ manyP n t clock now from fun h => by have := h.2.2.2; omega)]
      · rw [if_neg hl, decide_eq_false (show ¬ manyP n t clock now from fun h => by have := h.2.2.1; omega)]
    · rw [if_neg hn, decide_eq_false (show ¬ manyP n t clock now from fun h => by have := h.2.1; omega)]
  · rw [if_neg ht, decide_eq_false (show ¬ manyP n t clock now from fun h => ht h.1)]
theorem many_any2 (k n : Int) (t : Bool) (clock now : Int) (w : World) (h0 : 0 ≤ clock) (h1 : now ≤ 1152921504606846976) : Calls Try.prog 9 #[.agg #[.int .i64 k, .int .i64 n, .bool t], .int .i64 clock, .int .i64 now] w fun e w' => e = .returned (.bool (decide (manyP n t clock now))) ∧ Below w.heap.size w w' :=
  marqueelaw20_many.calls k n t clock now _ w (many_f2 k n t clock now h0 h1)
theorem to4002 {s : St} {a : Int} (h : s.t = true → a ≤ 4001 * s.n) (hn : s.t = true → 1 ≤ s.n) : s.t = true → a ≤ 4002 * s.n := fun ht => by
  have h1 := h ht
  have h2 := hn ht
  omega
theorem feed_keeps (s : St) (ri ro : RowsL) (now ev : Int) (xs ys all : RowsL) : (feed s ri ro now ev xs ys all).1.n = s.n ∧ (feed s ri ro now ev xs ys all).1.t = s.t := by
  unfold feed
  obtain ⟨a1, a2, a3, a4⟩ := adv_keeps s ri ro (mn (mx now s.clock) late) all
  obtain ⟨R, hR⟩ : ∃ R, adv s ri ro (mn (mx now s.clock) late) all = R := ⟨_, rfl⟩
  rw [hR] at a1 a2 a3 a4 ⊢
  unfold feedR
  split
  · exact ⟨a2, a3⟩
  · obtain ⟨b1, b2, b3, b4, b5⟩ := feedG_keeps R (mn (mx now s.clock) late) xs ys
    obtain ⟨G, hG⟩ : ∃ G, feedG R (mn (mx now s.clock) late) xs ys = G := ⟨_, rfl⟩
    rw [hG] at b1 b2 b3 b4 b5 ⊢
    unfold feedE
    split
    · exact ⟨b2.trans a2, b3.trans a3⟩
    · split
      · exact ⟨b2.trans a2, b3.trans a3⟩
      · exact ⟨b2.trans a2, b3.trans a3⟩
theorem feed_SmD (s : St) {ri ro : RowsL} (now ev : Int) {xs ys all : RowsL} (h1 : Sm ri) (h2 : Sm ro) (hx : Sm xs) (hy : Sm ys) (ha : Sm all) (hi : ri.length + xs.length ≤ 2097152) (ho : ro.length + ys.length ≤ 2097152) : SmD (feed s ri ro now ev xs ys all).2.2.2 := by
  unfold feed
  have q := adv_Sm (s := s) (mn (mx now s.clock) late) all h1 h2
  have q2 := adv_rows s ri ro (mn (mx now s.clock) late) all
  have q3 := adv_SmD s (mn (mx now s.clock) late) h1 h2 ha
  have q4 := adv_len s ri ro (mn (mx now s.clock) late) all
  obtain ⟨R, hR⟩ : ∃ R, adv s ri ro (mn (mx now s.clock) late) all = R := ⟨_, rfl⟩
  rw [hR] at q q2 q3 q4 ⊢
  have happ : ∀ x ∈ R.2.2.2 ++ [(⟨mn (mx now s.clock) late, ⟨xs, ys⟩⟩ : S43)], Sm x.f1.f0 ∧ Sm x.f1.f1 := fun x hx' => by
    rcases List.mem_append.1 hx' with h | h
    · exact q3.2 x h
    · rw [List.mem_singleton] at h; subst h; exact ⟨hx, hy⟩
  unfold feedR
  split
  · split
    · exact ⟨by simp only [List.length_append, List.length_singleton]; omega, happ⟩
    · exact ⟨by show R.2.2.2.length ≤ _; omega, q3.2⟩
  · have hg := feedG_Sm (nw := mn (mx now s.clock) late) q.1 q.2 hx hy (by omega) (by omega)
    have hD : (feedG R (mn (mx now s.clock) late) xs ys).2.2.2.length ≤ 4003 ∧ ∀ x ∈ (feedG R (mn (mx now s.clock) late) xs ys).2.2.2, Sm x.f1.f0 ∧ Sm x.f1.f1 := by
      unfold feedG
      split
      · split
        · exact ⟨by simp only [List.length_append, List.length_singleton]; omega, happ⟩
        · exact ⟨by omega, q3.2⟩
      · exact ⟨by show R.2.2.2.length ≤ _; omega, q3.2⟩
    obtain ⟨G, hG⟩ : ∃ G, feedG R (mn (mx now s.clock) late) xs ys = G := ⟨_, rfl⟩
    rw [hG] at hg hD ⊢
    unfold feedE
    split
    · exact ⟨by omega, hD.2⟩
    · split
      · refine ⟨?_, fun x hx' => (List.mem_append.1 hx').elim (hD.2 x) (endD_Sm hg.1 hg.2 ha x)⟩
        show (G.2.2.2 ++ _).length ≤ _
        rw [List.length_append]
        have := endD_le G.1.k (mn (mx now s.clock) late) G.2.1 G.2.2.1 all
        omega
      · exact ⟨by show G.2.2.2.length ≤ _; omega, hD.2⟩
/-- What an operation leaves. -/
structure StepP (s : St) (ri ro : RowsL) (d : Nat) (s' : St) (ri' ro' : RowsL) (ds : List S43) (m : Nat) : Prop where
  I : PI s' ri' ro'
  n : s'.n = s.n
  t : s'.t = s.t
  si : Sm ri'
  so : Sm ro'
  len : ri'.length + ro'.length ≤ ri.length + ro.length + d
  sD : SmD ds
  m : ds.length = m
theorem adv_step {s : St} {ri ro all : RowsL} (h : PI s ri ro) (hi : Sm ri) (ho : Sm ro) (ha : Sm all) {now : Int} (hl : now ≤ late) (hm : ¬ manyP s.n s.t s.clock now) :
    ∃ s' ri' ro' ds m, adv s ri ro now all = (s', ri', ro', ds) ∧ xadv s ri ro now all = (s', ri', ro', ds) ∧ (s.t = true → mn now late + 1 - s.border ≤ 4002 * s.n) ∧ StepP s ri ro 0 s' ri' ro' ds m := by
  obtain ⟨hp, hx⟩ := adv_pi h all hl hm
  obtain ⟨a1, a2, a3, a4⟩ := adv_keeps s ri ro now all
  have q := adv_Sm (s := s) now all hi ho
  have q2 := adv_rows s ri ro now all
  have q3 := adv_SmD s now hi ho ha
  rw [← hx]
  obtain ⟨⟨s', ri', ro', ds⟩, hR⟩ : ∃ R, adv s ri ro now all = R := ⟨_, rfl⟩
  rw [hR] at hp a1 a2 a3 a4 q q2 q3 ⊢
  exact ⟨s', ri', ro', ds, ds.length, rfl, rfl, to4002 (by rw [mn_lat hl]; exact few4 h.inv hm) h.inv.g.n1, hp, a2, a3, q.1, q.2, by have h1 : ri'.length ≤ ri.length := q2.1; have h2 : ro'.length ≤ ro.length := q2.2; omega, q3, rfl⟩
theorem feed_step {s : St} {ri ro xs ys all : RowsL} (h : PI s ri ro) (hi : Sm ri) (ho : Sm ro) (hx : Sm xs) (hy : Sm ys) (ha : Sm all) {now : Int} (ev : Int) (hl : now ≤ late) (hm : ¬ manyP s.n s.t s.clock now) (zi : ri.length + xs.length ≤ 2097152) (zo : ro.length + ys.length ≤ 2097152) :
    ∃ s' ri' ro' ds m, feed s ri ro now ev xs ys all = (s', ri', ro', ds) ∧ xfeed s ri ro now ev xs ys all = (s', ri', ro', ds) ∧ Fits s ri ro now xs ys all ∧ StepP s ri ro (xs.length + ys.length) s' ri' ro' ds m := by
  obtain ⟨hp, hxx⟩ := feed_pi h ev xs ys all hl hm
  obtain ⟨a2, a3⟩ := feed_keeps s ri ro now ev xs ys all
  obtain ⟨r1, r2, r3, r4⟩ := feed_rows (s := s) ri ro now ev xs ys all hi ho hx hy zi zo
  have q3 := feed_SmD s now ev hi ho hx hy ha zi zo
  have hcl : mx now s.clock ≤ late := by have := h.inv.g.cl; unfold mx; split <;> omega
  have hf : Fits s ri ro now xs ys all := ⟨h.inv.g, hi, ho, hx, hy, ha, h.inv.ev, zi, zo, to4002 (by rw [mn_lat hcl, mn_lat hcl]; exact few_mx h.inv hm) h.inv.g.n1⟩
  rw [← hxx]
  obtain ⟨⟨s', ri', ro', ds⟩, hR⟩ : ∃ R, feed s ri ro now ev xs ys all = R := ⟨_, rfl⟩
  rw [hR] at hp a2 a3 r1 r2 r3 r4 q3 ⊢
  exact ⟨s', ri', ro', ds, ds.length, rfl, rfl, hf, hp, a2, a3, r1, r2, by have h1 : ri'.length ≤ ri.length + xs.length := r3; have h2 : ro'.length ≤ ro.length + ys.length := r4; omega, q3, rfl⟩
/-! #### the loop -/
structure LoopP (W1 : World) (g1 g2 : Nat) (n : Int) (t : Bool) (l : List O33) (i : Nat) (s : St) (ri ro : RowsL) (wr : World) : Prop where
  S : Apart wr [Rt g1 s ri ro, Xr W1 g2 s ri ro nilV []]
  I : PI s ri ro
  hn : s.n = n
  ht : s.t = t
  si : Sm ri
  so : Sm ro
  li : ri.length + ro.length ≤ tot (l.take i)
theorem LoopP.old {W1 wr : World} {g1 g2 : Nat} {n : Int} {t : Bool} {l : List O33} {i : Nat} {s : St} {ri ro : RowsL} (h : LoopP W1 g1 g2 n t l i s ri ro wr) : Below W1.heap.size W1 wr := Xr.below (h.S.pick 1)
theorem LoopP.below {W1 wr wx : World} {g1 g2 : Nat} {n : Int} {t : Bool} {l : List O33} {i : Nat} {s : St} {ri ro : RowsL} (h : LoopP W1 g1 g2 n t l i s ri ro wr) (hb : Below wr.heap.size wr wx) : LoopP W1 g1 g2 n t l i s ri ro wx :=
  ⟨h.S.onto hb, h.I, h.hn, h.ht, h.si, h.so, h.li⟩
theorem pi0 {k n now : Int} {t : Bool} (h : rate_Check.f 4 k n t = some 0) (h0 : 0 ≤ n) (h1 : n ≤ 1099511627776) (c0 : 0 ≤ now) (c1 : now ≤ 1152921504606846976) : PI ⟨k, n, t, now, now + n, 0, false⟩ [] [] := by
  have hi := inv0 h h0 h1
  refine ⟨⟨⟨hi.g.k0, hi.g.t0, c0, by show now ≤ late; unfold late; omega, hi.g.n1, h1, fun _ => by show 0 ≤ now + n; omega, fun _ => by show now + n ≤ now + n; omega⟩, hi.ev, fun ht => ?_⟩, fun _ => rfl, fun _ => ⟨Nat.zero_le _, Nat.zero_le _⟩⟩
  have := hi.g.n1 ht
  simp only at this
  show now < now + n
  omega
/-- The next round. -/
theorem LoopP.next {W1 wr w' : World} {g1 g2 : Nat} {n : Int} {t : Bool} {l : List O33} {i : Int} {s s' : St} {ri ro ri' ro' : RowsL} {ds : List S43} {d m : Nat} (h : LoopP W1 g1 g2 n t l i.toNat s ri ro wr) (h0 : 0 ≤ i) (h1 : i < l.length) (hs : StepP s ri ro d s' ri' ro' ds m) (hd : d ≤ (rd33 l i).2.2.2.1.f0.length + (rd33 l i).2.2.2.1.f1.length)
    (hS : Apart w' [Rt g1 s' ri' ro', Xr W1 g2 s' ri' ro' nilV []]) : LoopP W1 g1 g2 n t l (i + 1).toNat s' ri' ro' w' :=
  ⟨hS, hs.I, hs.n.trans h.hn, hs.t.trans h.ht, hs.si, hs.so, by rw [tot_step h0 h1]; have := h.li; have := hs.len; omega⟩
theorem LoopP.sizes {W1 wr : World} {g1 g2 : Nat} {n : Int} {t : Bool} {l : List O33} {i : Int} {s : St} {ri ro : RowsL} (h : LoopP W1 g1 g2 n t l i.toNat s ri ro wr) (h0 : 0 ≤ i) (h1 : i < l.length) (hL : tot l ≤ 1048576) : ri.length + (rd33 l i).2.2.2.1.f0.length ≤ 2097152 ∧ ro.length + (rd33 l i).2.2.2.1.f1.length ≤ 2097152 := by
  have ht := tot_step h0 h1
  have hle := tot_take_le l (i + 1).toNat
  have hli := h.li
  omega
theorem at33b {w wr : World} {A : Option Addr} {l : List O33} (h : Kd.C k33 w A l.length l) (hb : Below w.heap.size w wr) (i : Int) (h0 : 0 ≤ i) (h1 : i < l.length) : ∃ ad A0 c0 A1 c1 A2 c2, A = some ad ∧
    wr.cell? (ad.add (i.toNat * 6)) = some (.bool (rd33 l i).1) ∧
    wr.cell? ⟨(ad.add (i.toNat * 6)).block, (ad.add (i.toNat * 6)).off + 1, none⟩ = some (.int .i64 (rd33 l i).2.1) ∧ wr.cell? ⟨(ad.add (i.toNat * 6)).block, (ad.add (i.toNat * 6)).off + 2, none⟩ = some (.int .i64 (rd33 l i).2.2.1) ∧
    wr.cell? ⟨(ad.add (i.toNat * 6)).block, (ad.add (i.toNat * 6)).off + 3, none⟩ = some (.slice A0 (rd33 l i).2.2.2.1.f0.length c0) ∧ wr.cell? ⟨(ad.add (i.toNat * 6)).block, (ad.add (i.toNat * 6)).off + 4, none⟩ = some (.slice A1 (rd33 l i).2.2.2.1.f1.length c1) ∧
    wr.cell? ⟨(ad.add (i.toNat * 6)).block, (ad.add (i.toNat * 6)).off + 5, none⟩ = some (.slice A2 (rd33 l i).2.2.2.2.length c2) ∧
    Rd wr (fun k => k < w.heap.size) (.slice A0 (rd33 l i).2.2.2.1.f0.length c0) (rd33 l i).2.2.2.1.f0 ∧ Rd wr (fun k => k < w.heap.size) (.slice A1 (rd33 l i).2.2.2.1.f1.length c1) (rd33 l i).2.2.2.1.f1 ∧ Rd wr (fun k => k < w.heap.size) (.slice A2 (rd33 l i).2.2.2.2.length c2) (rd33 l i).2.2.2.2 := by
  obtain ⟨ad, c, e, _, hK, hc0⟩ := Kd.C_get h z33 i h0 h1
  have hc : ∀ j u, c[j]? = some u → w.cell? (ad.add (i.toNat * 6 + j)) = some u := hc0
  have hcr : ∀ j u, c[j]? = some u → wr.cell? (ad.add (i.toNat * 6 + j)) = some u := fun j u hu => (hb.cell (World.block_lt_of_cell? w _ (hc j u hu))).trans (hc j u hu)
  obtain ⟨A0, c0, A1, c1, A2, c2, rfl, l0, g0, l1, g1, l2, g2⟩ := k33_open hK
  refine ⟨ad, A0, c0, A1, c1, A2, c2, e, ?_, ?_, ?_, ?_, ?_, ?_, ⟨A0, c0, rfl, l0, Kd.F_below (Kd.C_F heap_kR g0) hb⟩, ⟨A1, c1, rfl, l1, Kd.F_below (Kd.C_F heap_kR g1) hb⟩, ⟨A2, c2, rfl, l2, Kd.F_below (Kd.C_F heap_kR g2) hb⟩⟩
  · exact hcr 0 _ rfl
  · rw [← add_field _ _ 1 (by omega)]; exact hcr 1 _ rfl
  · rw [← add_field _ _ 2 (by omega)]; exact hcr 2 _ rfl
  · rw [← add_field _ _ 3 (by omega)]; exact hcr 3 _ rfl
  · rw [← add_field _ _ 4 (by omega)]; exact hcr 4 _ rfl
  · rw [← add_field _ _ 5 (by omega)]; exact hcr 5 _ rfl
theorem Rd.c {w : World} {ok : Nat → Prop} {A : Option Addr} {c : Nat} {l : RowsL} (h : Rd w ok (.slice A l.length c) l) : kR.C w A l.length l ∧ l.length ≤ c := by
  obtain ⟨A', c', e, h1, h2⟩ := h
  cases e
  exact ⟨Kd.F_now h2, h1⟩
end Go.Proofs.Yteklabhmmfklbaa
