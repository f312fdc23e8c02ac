import Derived.Test.YteklabhmmfklbaaNew
import Derived.Test.YteklabhmmfklbaaPlain1
namespace Go.Proofs.Yteklabhmmfklbaa
open Go.RowKit Print Go.Proofs.YteklabhmmfklbaaW.PrintWords Go.Proofs.YteklabhmmfklbaaW.PrintLast Go.Proofs.YteklabhmmfklbaaW.PrintMore
set_option linter.unusedVariables false
variable {w W : World} {L : List Asr}
theorem Sep.out {A : Asr} {l : List Asr} {U : Nat → Prop} (h : Sep w (A :: l) U) : ∃ F, A.P w F ∧ (∀ k, F k → ¬ U k) ∧ Sep w l (fun k => U k ∨ F k) := h
theorem Sep.onto (h : Apart w L) (hW : Below w.heap.size w W) : Apart W L := Sep.below h hW
/-! #### New -/
theorem new_sep (k n : Int) (t : Bool) (now : Int) (h : Apart w L) (hW : Below w.heap.size w W) (hc : rate_Check.f 4 k n t = some 0) (n0 : 0 ≤ now) (n1 : now ≤ 1152921504606846976) (hn0 : 0 ≤ n) (hn1 : n ≤ 1099511627776) :
    Calls Try.prog 7 #[.agg #[.int .i64 k, .int .i64 n, .bool t], .int .i64 now] W (fun e w' => ∃ g, e = .returned (.pointer (some ⟨g, 0, none⟩)) ∧ Apart w' (Rt g ⟨k, n, t, now, now + n, 0, false⟩ [] [] :: L)) :=
  (new_any k n t now W hc n0 n1 hn0 hn1).mono fun e w' ⟨g, he, hg, hA, hb⟩ =>
    ⟨g, he, Sep.new (F := fun k => k = g) (h.onto hW) hb ⟨nilV, nilV, fun _ => False, fun _ => False, ⟨hA, Kd.R_nil _ _ _ _ _, Kd.R_nil _ _ _ _ _, id, id, fun _ h => h.elim, fun _ h => h.elim, fun _ h => h.elim⟩, fun k => by simp⟩ (fun k hk => by subst hk; exact hg)⟩
/-! #### Feed -/
/-- The parts of what Feed and Advance leave. -/
theorem sep_told {w' : World} {g : Nat} {s' : St} {ri' ro' : RowsL} {okI okO : Nat → Prop} {v : Value} {ds : List S43} {F : Nat → Prop} (hF : ∀ k, F k ↔ (k = g ∨ okI k ∨ okO k)) (hl : Sep W L F) (h : FeedI W g okI okO (s', ri', ro', ds) v w') (glt : g < W.heap.size) (gI : ¬ okI g) (gO : ¬ okO g) :
    Apart w' (Rt g s' ri' ro' :: Dl v ds :: L) := by
  obtain ⟨vi, vo, okI', okO', okD, hB, hD, hK, hI, hO, hDk⟩ := h
  refine ⟨fun k => k = g ∨ okI' k ∨ okO' k, ⟨vi, vo, okI', okO', hB, fun _ => Iff.rfl⟩, fun _ _ h => h, okD, ⟨hD, fun k hk => (hDk k hk).2.1⟩, fun k hk hu => ?_, ?_⟩
  · rcases hu with h | h | h | h
    · exact h
    · subst h
      rcases (hDk k hk).1 with h | h | h
      · exact gI h
      · exact gO h
      · omega
    · exact (hDk k hk).2.2.1 h
    · exact (hDk k hk).2.2.2 h
  · refine hl.frame hK (fun k hk => (hF k).2 hk) (fun k hu => ?_)
    rcases hu with (h | h | h | h) | h
    · exact h.elim
    · exact .inl ((hF k).2 (.inl h))
    · exact (hI k h).imp (fun h => (hF k).2 (.inr (.inl h))) id
    · exact (hO k h).imp (fun h => (hF k).2 (.inr (.inr h))) id
    · rcases (hDk k h).1 with h | h | h
      · exact .inl ((hF k).2 (.inr (.inl h)))
      · exact .inl ((hF k).2 (.inr (.inr h)))
      · exact .inr h
structure Fits (s : St) (ri ro : RowsL) (now : Int) (xs ys all : RowsL) : Prop where
  g : Good s
  i : Sm ri
  o : Sm ro
  x : Sm xs
  y : Sm ys
  a : Sm all
  ev : 0 ≤ s.events ∧ s.events ≤ late
  zi : ri.length + xs.length ≤ 2097152
  zo : ro.length + ys.length ≤ 2097152
  many : s.t = true → mn (mn (mx now s.clock) late) late + 1 - s.border ≤ 4002 * s.n
theorem feed_core {F okX : Nat → Prop} {g : Nat} {s s' : St} {ri ro ri' ro' : RowsL} {ds : List S43} (now ev : Int) {A A' A2 : Option Addr} {c c' c2 : Nat} {xs ys all : RowsL} (hR : (Rt g s ri ro).P W F) (hl : Sep W L F) (hf : Fits s ri ro now xs ys all)
    (hx : Kd.F kR W okX A xs.length xs) (hxc : xs.length ≤ c) (hy : Kd.F kR W okX A' ys.length ys) (hyc : ys.length ≤ c') (ha : Kd.F kR W okX A2 all.length all) (hac : all.length ≤ c2) (hX : ∀ k, okX k → ¬ F k) (he : feed s ri ro now ev xs ys all = (s', ri', ro', ds)) :
    Calls Try.prog 10 #[.pointer (some ⟨g, 0, none⟩), .int .i64 now, .int .i64 ev, .agg #[.slice A xs.length c, .slice A' ys.length c'], .slice A2 all.length c2] W (fun e w' => ∃ A3 c3, e = .returned (.slice A3 ds.length c3) ∧ Apart w' (Rt g s' ri' ro' :: Dl (.slice A3 ds.length c3) ds :: L)) := by
  obtain ⟨vi, vo, okI, okO, hB, hF⟩ := hR
  refine (feed_any g s vi vo ri ro okI okO now ev A c xs A' c' ys A2 c2 all okX W hB hf.g hf.i hf.o hx hxc hf.x hy hyc hf.y ha hac hf.a (fun k hk => ⟨fun e => hX k hk ((hF k).2 (.inl e)), fun e => hX k hk ((hF k).2 (.inr (.inl e))), fun e => hX k hk ((hF k).2 (.inr (.inr e)))⟩) hf.ev hf.zi hf.zo hf.many).mono fun e w' ⟨v, hv, hI⟩ => ?_
  rw [he] at hI
  have hs := sep_told hF hl hI hB.at_.lt hB.gI hB.gO
  obtain ⟨vi', vo', okI', okO', okD, _, hD, _⟩ := hI
  obtain ⟨A3, c3, rfl⟩ := Kd.R_slice hD
  exact ⟨A3, c3, hv, hs⟩
/-- Feed, of rows that are their own; no rows for the snapshot. -/
theorem feed_sep {g : Nat} {s s' : St} {ri ro ri' ro' : RowsL} {ds : List S43} (now ev : Int) {A A' : Option Addr} {n n' m c c' : Nat} {xs ys : RowsL} (h : Apart w (Rw (.slice A n c) xs :: Rw (.slice A' n' c') ys :: Rt g s ri ro :: L)) (hW : Below w.heap.size w W) (hf : Fits s ri ro now xs ys [])
    (he : feed s ri ro now ev xs ys [] = (s', ri', ro', ds)) (hm : ds.length = m) :
    Calls Try.prog 10 #[.pointer (some ⟨g, 0, none⟩), .int .i64 now, .int .i64 ev, .agg #[.slice A n c, .slice A' n' c'], .slice none 0 0] W (fun e w' => ∃ A3 c3, e = .returned (.slice A3 m c3) ∧ Apart w' (Rt g s' ri' ro' :: Dl (.slice A3 m c3) ds :: L)) := by
  obtain ⟨F1, h1, d1, q1⟩ := Sep.out (h.onto hW)
  obtain ⟨F2, h2, d2, q2⟩ := Sep.out q1
  obtain ⟨F, hR, d3, hl⟩ := Sep.out q2
  replace h1 := h1.1
  replace h2 := h2.1
  have e1 := Kd.R_reads' h1
  have e2 := Kd.R_reads' h2
  obtain ⟨rfl, c1, _⟩ := e1
  obtain ⟨rfl, c2, _⟩ := e2
  subst hm
  have := feed_core (okX := fun k => F1 k ∨ F2 k) (all := []) (A2 := none) (c2 := 0) now ev hR (hl.mono (fun k hk => .inr hk)) hf (Kd.F_mono (Kd.R_F h1) (fun k hk => .inl hk)) c1 (Kd.F_mono (Kd.R_F h2) (fun k hk => .inr hk)) c2 (Kd.F_nil _ _ _) (Nat.le_refl _) (fun k hk hF => d3 k hF (hk.elim (fun h => .inl (.inr h)) .inr)) he
  exact this
/-! #### Advance -/
theorem adv_core {F okA : Nat → Prop} {g : Nat} {s s' : St} {ri ro ri' ro' : RowsL} {ds : List S43} (now : Int) {A : Option Addr} {c : Nat} {all : RowsL} (hR : (Rt g s ri ro).P W F) (hl : Sep W L F) (hG : Good s) (hi : Sm ri) (ho : Sm ro)
    (ha : Kd.F kR W okA A all.length all) (hac : all.length ≤ c) (hs : Sm all) (hX : ∀ k, okA k → ¬ F k) (hmany : s.t = true → mn now late + 1 - s.border ≤ 4002 * s.n) (he : adv s ri ro now all = (s', ri', ro', ds)) :
    Calls Try.prog 11 #[.pointer (some ⟨g, 0, none⟩), .int .i64 now, .slice A all.length c] W (fun e w' => ∃ A3 c3, e = .returned (.slice A3 ds.length c3) ∧ Apart w' (Rt g s' ri' ro' :: Dl (.slice A3 ds.length c3) ds :: L)) := by
  obtain ⟨vi, vo, okI, okO, hB, hF⟩ := hR
  refine (adv_any g s vi vo ri ro okI okO now A c all okA W hB hG hi ho ha (fun h => hX g h ((hF g).2 (.inl rfl))) hac hs hmany).mono fun e w' ⟨v, vi', vo', okD, okI', okO', hv, hB', hD, hK, hI, hO, hDk⟩ => ?_
  rw [he] at hB' hD
  have hs := sep_told hF hl (⟨vi', vo', okI', okO', okD, hB', hD, hK.mono (fun _ h => .inl h), fun k h => .inl (hI k h), fun k h => .inl (hO k h), hDk⟩ : FeedI W g okI okO (s', ri', ro', ds) v w') hB.at_.lt hB.gI hB.gO
  obtain ⟨A3, c3, rfl⟩ := Kd.R_slice hD
  exact ⟨A3, c3, hv, hs⟩
theorem adv_sep0 {g : Nat} {s s' : St} {ri ro ri' ro' : RowsL} {ds : List S43} {m : Nat} (now : Int) (h : Apart w (Rt g s ri ro :: L)) (hW : Below w.heap.size w W) (hG : Good s) (hi : Sm ri) (ho : Sm ro) (hmany : s.t = true → mn now late + 1 - s.border ≤ 4002 * s.n)
    (he : adv s ri ro now [] = (s', ri', ro', ds)) (hm : ds.length = m) :
    Calls Try.prog 11 #[.pointer (some ⟨g, 0, none⟩), .int .i64 now, .slice none 0 0] W (fun e w' => ∃ A3 c3, e = .returned (.slice A3 m c3) ∧ Apart w' (Rt g s' ri' ro' :: Dl (.slice A3 m c3) ds :: L)) := by
  obtain ⟨F, hR, _, hl⟩ := h.onto hW
  subst hm
  have := adv_core (okA := fun _ => False) (all := []) (A := none) (c := 0) now hR (hl.mono (fun k hk => .inr hk)) hG hi ho (Kd.F_nil _ _ _) (Nat.le_refl _) Sm.nil (fun _ h => h.elim) hmany he
  exact this
theorem adv_sep {g : Nat} {s s' : St} {ri ro ri' ro' : RowsL} {ds : List S43} {A : Option Addr} {n m c : Nat} {all : RowsL} (now : Int) (h : Apart w (Rw (.slice A n c) all :: Rt g s ri ro :: L)) (hW : Below w.heap.size w W) (hG : Good s) (hi : Sm ri) (ho : Sm ro) (hs : Sm all) (hmany : s.t = true → mn now late + 1 - s.border ≤ 4002 * s.n)
    (he : adv s ri ro now all = (s', ri', ro', ds)) (hm : ds.length = m) :
    Calls Try.prog 11 #[.pointer (some ⟨g, 0, none⟩), .int .i64 now, .slice A n c] W (fun e w' => ∃ A3 c3, e = .returned (.slice A3 m c3) ∧ Apart w' (Rt g s' ri' ro' :: Dl (.slice A3 m c3) ds :: L)) := by
  obtain ⟨F1, h1, d1, q1⟩ := Sep.out (h.onto hW)
  obtain ⟨F, hR, d3, hl⟩ := Sep.out q1
  replace h1 := h1.1
  obtain ⟨rfl, c1, _⟩ := Kd.R_reads' h1
  subst hm
  exact adv_core now hR (hl.mono (fun k hk => .inr hk)) hG hi ho (Kd.R_F h1) c1 hs (fun k hk hF => d3 k hF (.inr hk)) hmany he
/-! #### literals -/
theorem lit_int (w : World) (l : List Int) (hl : l.length ≤ 9223372036854775807) : Kd.C (Kd.int .i64) (w.alloc (.cells (l.map (Value.int .i64)).toArray 3)) (some ⟨w.heap.size, 0, none⟩) l.length l := by
  refine ⟨rfl, hl, fun _ => ⟨_, rfl, fun j p hj => ⟨[.int .i64 p], rfl, rfl, fun i u hu => ?_⟩⟩⟩
  rcases i with _ | i
  · have hu' : Value.int .i64 p = u := by simpa using hu
    subst hu'
    have hb : (w.alloc (.cells (l.map (Value.int .i64)).toArray 3)).heap[w.heap.size]? = some (.cells (l.map (Value.int .i64)).toArray 3 (0, 0)) := heap_alloc_new w _
    have := blk_cell hb j
    have sz : (Kd.int .i64).sz = 1 := rfl
    rw [sz, Nat.mul_one, Nat.add_zero, add_plain]
    try rw [Nat.zero_add]
    refine this.trans ?_
    simp [hj]
  · simp at hu
def X (l : List Int) : RowsL := l.map fun a => [(⟨2, a, ⟨#[]⟩⟩ : S68)]
theorem R_empty {w : World} {b : Nat} {ok : Nat → Prop} {v : Value} (h : kR.R 61 w b ok v []) : kR.R 61 w b (fun k => v.ownBlock = some k) v [] :=
  ⟨fun _ hk => hk, by obtain ⟨inner, ho, hr⟩ := h.2; exact ⟨inner, ho, hr.1, fun j p hj => by simp at hj⟩⟩
theorem in_sep (l : List Int) (hl : l.length ≤ 4) (h : Apart w L) (hf : marqueelaw20_in.f 5 l = some (X l, [])) :
    Calls Try.prog 25 #[.slice (some ⟨w.heap.size, 0, none⟩) l.length l.length] (w.alloc (.cells (l.map (Value.int .i64)).toArray 3)) (fun e w' => ∃ A c A' c', e = .returned (.agg #[.slice A l.length c, .slice A' 0 c']) ∧ Apart w' (Rw (.slice A l.length c) (X l) :: Rw (.slice A' 0 c') [] :: L)) := by
  have hb0 := below_alloc (Below.refl w.heap.size w) (.cells (l.map (Value.int .i64)).toArray 3)
  refine (marqueelaw20_in.calls 5 _ l.length l (X l) [] _ (lit_int w l (by omega)) (Nat.le_refl _) hf).mono fun e w' ⟨v0, v1, he, h0, h1, hb⟩ => ?_
  have r0 := Kd.R_bound (Kd.S_R h0)
  have r1 := R_empty (Kd.S_R h1)
  have b1 := Kd.R_bound (Kd.S_R h1)
  obtain ⟨A, c, rfl⟩ := Kd.R_slice r0
  obtain ⟨A', c', rfl⟩ := Kd.R_slice r1
  have hs : (w.alloc (.cells (l.map (Value.int .i64)).toArray 3)).heap.size = w.heap.size + 1 := by simp
  have xl : (X l).length = l.length := List.length_map ..
  have hbb : Below w.heap.size w w' := below_step hb0 hb
  rw [xl] at he r0
  have hlow : ∀ k, (Value.slice A' 0 c').ownBlock = some k → w.heap.size ≤ k ∧ k < w'.heap.size := fun k hk => by
    have := b1.1 k hk
    have h2 := this.2.1
    have h3 := this.2.2.1
    exact ⟨by omega, h3⟩
  refine ⟨A, c, A', c', he, ?_⟩
  refine ⟨_, ⟨Kd.R_lower r0 (Nat.zero_le _), fun k hk => hk.2.2.1⟩, fun _ _ h => h, _, ⟨Kd.R_lower r1 (Nat.zero_le _), fun k hk => (hlow k hk).2⟩, fun k hk hu => ?_, ?_⟩
  · rcases hu with h | h
    · exact h
    · exact h.1 hk.symm
  · refine Sep.frame (K3.of_below hbb (fun _ => False)) h (fun _ hs => hs.elim) (fun k hu => ?_)
    rcases hu with (h | h) | h
    · exact h.elim
    · have := h.2.1; exact .inr (by omega)
    · exact .inr (hlow k h).1
/-! #### same -/
theorem same_sep (A : Option Addr) (n c : Nat) (A' : Option Addr) (c' : Nat) (ds : List S43) {i : Nat} {L' : List Asr} (h : Apart w L) (hi : pick i L = Dl (.slice A n c) ds :: L') (hW : Below w.heap.size w W) (hC : k43.C W A' n ds) (hc : n ≤ c') (hs : SmD ds) :
    Calls Try.prog 13 #[.slice A n c, .slice A' n c'] W (fun e w' => e = .returned (.bool true) ∧ Apart w' L) := by
  have h2 := h.onto hW
  have h3 := h2.pick i
  rw [hi] at h3
  obtain ⟨F, ⟨hR, _⟩, _⟩ := h3
  obtain ⟨rfl, hcc, hC0⟩ := Kd.R_reads' hR
  exact (same_any A c A' c' ds W hC0 hcc hC hc hs).mono fun e w' ⟨he, hb⟩ => ⟨he, h2.onto hb⟩
end Go.Proofs.Yteklabhmmfklbaa
