import Derived.Test.YteklabhmmfklbaaFeed
import Derived.Test.YteklabhmmfklbaaMgK
import Derived.BigQuiet
namespace Go.Proofs.Yteklabhmmfklbaa
open Go.RowKit Print Go.Proofs.YteklabhmmfklbaaW.PrintWords Go.Proofs.YteklabhmmfklbaaW.PrintLast Go.Proofs.YteklabhmmfklbaaW.PrintMore
set_option linter.unusedVariables false
/-! ### What lies apart in memory -/
/-- A thing in memory and the blocks that are its own. -/
structure Asr where
  P : World → (Nat → Prop) → Prop
  lt : ∀ {w F}, P w F → ∀ k, F k → k < w.heap.size
  keep : ∀ {w w' F S}, P w F → K3 w w' S → (∀ k, F k → ¬ S k) → P w' F
/-- All of them, each in blocks of its own, and none of U's. -/
def Sep (w : World) : List Asr → (Nat → Prop) → Prop
  | [], _ => True
  | A :: l, U => ∃ F, A.P w F ∧ (∀ k, F k → ¬ U k) ∧ Sep w l (fun k => U k ∨ F k)
abbrev Apart (w : World) (l : List Asr) : Prop := Sep w l (fun _ => False)
theorem Sep.mono {w : World} : ∀ {l : List Asr} {U U' : Nat → Prop}, Sep w l U → (∀ k, U' k → U k) → Sep w l U'
  | [], _, _, _, _ => trivial
  | A :: l, U, U', ⟨F, hA, hF, hl⟩, h => ⟨F, hA, fun k hk hu => hF k hk (h k hu), hl.mono (fun k hk => hk.imp (h k) id)⟩
theorem Sep.frame {w w' : World} {S : Nat → Prop} (hk : K3 w w' S) : ∀ {l : List Asr} {U U' : Nat → Prop}, Sep w l U → (∀ k, S k → U k) → (∀ k, U' k → U k ∨ w.heap.size ≤ k) → Sep w' l U'
  | [], _, _, _, _, _ => trivial
  | A :: l, U, U', ⟨F, hA, hF, hl⟩, hS, hU => ⟨F, A.keep hA hk (fun k hf hs => hF k hf (hS k hs)), fun k hf hu => (hU k hu).elim (hF k hf) (fun h => by have := A.lt hA k hf; omega),
      hl.frame hk (fun k hs => .inl (hS k hs)) (fun k hu => hu.elim (fun h => (hU k h).imp .inl id) (fun h => .inl (.inr h)))⟩
theorem Sep.below {w w' : World} {l : List Asr} {U : Nat → Prop} (h : Sep w l U) (hb : Below w.heap.size w w') : Sep w' l U :=
  h.frame (K3.of_below hb (fun _ => False)) (fun _ hs => hs.elim) (fun _ hu => .inl hu)
theorem Sep.swap {w : World} {A B : Asr} {l : List Asr} {U : Nat → Prop} (h : Sep w (A :: B :: l) U) : Sep w (B :: A :: l) U := by
  obtain ⟨F, hA, hF, G, hB, hG, hl⟩ := h
  exact ⟨G, hB, fun k hk hu => hG k hk (.inl hu), F, hA, fun k hk hu => hu.elim (hF k hk) (fun hg => hG k hg (.inr hk)), hl.mono (fun k hk => hk.elim (fun h => h.elim (fun h => .inl (.inl h)) .inr) (fun h => .inl (.inr h)))⟩
/-- The i-th one, set ahead. -/
def pick : Nat → List Asr → List Asr
  | 0, l => l
  | i + 1, A :: l => match pick i l with
    | [] => [A]
    | B :: l' => B :: A :: l'
  | _ + 1, [] => []
theorem Sep.pick {w : World} : ∀ (i : Nat) {l : List Asr} {U : Nat → Prop}, Sep w l U → Sep w (pick i l) U
  | 0, _, _, h => h
  | i + 1, [], _, h => h
  | i + 1, A :: l, U, ⟨F, hA, hF, hl⟩ => by
    have := hl.pick i
    show Sep w (match Yteklabhmmfklbaa.pick i l with | [] => [A] | B :: l' => B :: A :: l') U
    revert this
    cases Yteklabhmmfklbaa.pick i l with
    | nil => exact fun _ => ⟨F, hA, hF, trivial⟩
    | cons B l' => exact fun h2 => Sep.swap ⟨F, hA, hF, h2⟩
theorem Sep.tail {w : World} {A : Asr} {l : List Asr} {U : Nat → Prop} (h : Sep w (A :: l) U) : Sep w l U := by
  obtain ⟨F, hA, hF, hl⟩ := h
  exact hl.mono (fun k hk => .inl hk)
/-- What was made anew is set ahead. -/
theorem Sep.new {w w' : World} {A : Asr} {l : List Asr} {F : Nat → Prop} (h : Apart w l) (hb : Below w.heap.size w w') (hA : A.P w' F) (hF : ∀ k, F k → w.heap.size ≤ k) : Apart w' (A :: l) :=
  ⟨F, hA, fun _ _ h => h, Sep.frame (K3.of_below hb (fun _ => False)) h (fun _ hs => hs.elim) (fun k hu => hu.elim .inl (fun hk => .inr (hF k hk)))⟩
/-! #### the things -/
/-- What is elder than w0: nothing of it was touched. -/
def Old (w0 : World) : Asr where
  P w F := (∀ k, F k ↔ k < w0.heap.size) ∧ Below w0.heap.size w0 w
  lt h k hk := Nat.lt_of_lt_of_le ((h.1 k).1 hk) h.2.size
  keep h hk hd := ⟨h.1, K3.to_below h.2 hk (fun k hs => Nat.le_of_not_lt (fun hl => hd k ((h.1 k).2 hl) hs))⟩
/-- A rate. -/
def Rt (g : Nat) (s : St) (ri ro : RowsL) : Asr where
  P w F := ∃ vi vo, ∃ okI okO : Nat → Prop, Both w g s okI okO vi vo ri ro ∧ ∀ k, F k ↔ (k = g ∨ okI k ∨ okO k)
  lt h k hk := by
    obtain ⟨vi, vo, okI, okO, hB, hF⟩ := h
    rcases (hF k).1 hk with e | h | h
    · subst e; exact hB.at_.lt
    · exact hB.bI k h
    · exact hB.bO k h
  keep h hk hd := by
    obtain ⟨vi, vo, okI, okO, hB, hF⟩ := h
    exact ⟨vi, vo, okI, okO, ⟨hB.at_.kept hk (hd _ ((hF _).2 (.inl rfl))), K3.R hB.hi hk (fun k h => hd k ((hF k).2 (.inr (.inl h)))), K3.R hB.ho hk (fun k h => hd k ((hF k).2 (.inr (.inr h)))), hB.gI, hB.gO, fun k h => Nat.lt_of_lt_of_le (hB.bI k h) hk.1, fun k h => Nat.lt_of_lt_of_le (hB.bO k h) hk.1, hB.dis⟩, hF⟩
/-- Deliveries. -/
def Dl (v : Value) (l : List S43) : Asr where
  P w F := k43.R 43 w 0 F v l ∧ ∀ k, F k → k < w.heap.size
  lt h := h.2
  keep h hk hd := ⟨K3.R h.1 hk hd, fun k hf => Nat.lt_of_lt_of_le (h.2 k hf) hk.1⟩
/-- Rows. -/
def Rw (v : Value) (l : RowsL) : Asr where
  P w F := kR.R 61 w 0 F v l ∧ ∀ k, F k → k < w.heap.size
  lt h := h.2
  keep h hk hd := ⟨K3.R h.1 hk hd, fun k hf => Nat.lt_of_lt_of_le (h.2 k hf) hk.1⟩
theorem Sep.begin (w : World) : Apart w [Old w] := ⟨fun k => k < w.heap.size, ⟨fun _ => Iff.rfl, Below.refl _ _⟩, fun _ _ h => h, trivial⟩
theorem Sep.done {w0 w : World} {l : List Asr} (h : Apart w (Old w0 :: l)) : Below w0.heap.size w0 w := h.choose_spec.1.2
end Go.Proofs.Yteklabhmmfklbaa
namespace Go.Proofs.Yteklabhmmfklbaa
open Go.RowKit Print Go.Proofs.YteklabhmmfklbaaW.PrintWords Go.Proofs.YteklabhmmfklbaaW.PrintLast Go.Proofs.YteklabhmmfklbaaW.PrintMore
set_option linter.unusedVariables false
set_option maxHeartbeats 2000000 in
set_option maxRecDepth 100000 in
/-- A rate that may not be. -/
theorem new_none (k n : Int) (t : Bool) (now : Int) (r : Int) (w : World) (hc : rate_Check.f 4 k n t = some r) (hr : r ≠ 0) :
    Calls Try.prog 7 #[.agg #[.int .i64 k, .int .i64 n, .bool t], .int .i64 now] w (fun e w' => e = .returned (.pointer none) ∧ Below w.heap.size w w') := by
  have hu23 := Try.underlying23
  have HC := Aside0.mk hc
  have hr1 : (r == 0) = false := beq_eq_false_iff_ne.2 hr
  have hr2 : (r = 0) = False := eq_false hr
  clear hc hr
  go_enter Try.func7, Try.ntmps7
  go_wp2_with (first | (go_at_call 17; (with_reducible refine (rate_Check.calls 4 k n t r _ HC.out).mono ?_); rintro e w1 ⟨rfl, hb⟩; have HB1 := Aside0.mk (below_step (below_alloc (Below.refl w.heap.size w) _) hb); clear hb))
  go_ret
  exact ⟨rfl, HB1.out⟩
set_option maxHeartbeats 2000000 in
set_option maxRecDepth 100000 in
theorem new_late (k n : Int) (t : Bool) (now : Int) (w : World) (hc : rate_Check.f 4 k n t = some 0) (h0 : now < 0 ∨ 1152921504606846976 < now) :
    Calls Try.prog 7 #[.agg #[.int .i64 k, .int .i64 n, .bool t], .int .i64 now] w (fun e w' => e = .returned (.pointer none) ∧ Below w.heap.size w w') := by
  have hu23 := Try.underlying23
  have HC := Aside0.mk hc
  clear hc
  by_cases n0 : now < 0
  · have n1 : ¬ now > 1152921504606846976 := by omega
    clear h0
    go_enter Try.func7, Try.ntmps7
    go_wp2_with (first | (go_at_call 17; (with_reducible refine (rate_Check.calls 4 k n t 0 _ HC.out).mono ?_); rintro e w1 ⟨rfl, hb⟩; have HB1 := Aside0.mk (below_step (below_alloc (Below.refl w.heap.size w) _) hb); clear hb))
    go_ret
    exact ⟨rfl, HB1.out⟩
  · have n1 : 1152921504606846976 < now := by omega
    clear h0
    go_enter Try.func7, Try.ntmps7
    go_wp2_with (first | (go_at_call 17; (with_reducible refine (rate_Check.calls 4 k n t 0 _ HC.out).mono ?_); rintro e w1 ⟨rfl, hb⟩; have HB1 := Aside0.mk (below_step (below_alloc (Below.refl w.heap.size w) _) hb); clear hb))
    go_ret
    exact ⟨rfl, HB1.out⟩
set_option maxHeartbeats 2000000 in
set_option maxRecDepth 100000 in
theorem new_any (k n : Int) (t : Bool) (now : Int) (w : World) (hc : rate_Check.f 4 k n t = some 0) (n0 : 0 ≤ now) (n1 : now ≤ 1152921504606846976) (hn0 : 0 ≤ n) (hn1 : n ≤ 1099511627776) :
    Calls Try.prog 7 #[.agg #[.int .i64 k, .int .i64 n, .bool t], .int .i64 now] w (fun e w' => ∃ g, e = .returned (.pointer (some ⟨g, 0, none⟩)) ∧ w.heap.size ≤ g ∧ At 59 w' g ⟨k, n, t, now, now + n, 0, false⟩ nilV nilV ∧ Below w.heap.size w w') := by
  have hu23 := Try.underlying23
  have hu59 := Try.underlying59
  have HC := Aside0.mk hc
  clear hc
  go_enter Try.func7, Try.ntmps7
  go_wp2_with (first | (go_at_call 17; (with_reducible refine (rate_Check.calls 4 k n t 0 _ HC.out).mono ?_); rintro e w1 ⟨rfl, hb⟩; have z := hb.cell (p := ⟨w.heap.size, 0, none⟩) (by simp); have hbx : w1.heap[w.heap.size]? = some (.cells #[.int .i64 k, .int .i64 n, .bool t] 23 (0, 0)) := (hb.block _ (by simp)).trans (by simpa using heap_alloc_new w _); have z0 : w1.cell? ⟨w.heap.size, 0, none⟩ = some (.int .i64 k) := (blk_cell hbx 0).trans rfl; have z1 : w1.cell? ⟨w.heap.size, 1, none⟩ = some (.int .i64 n) := (blk_cell hbx 1).trans rfl; have z2 : w1.cell? ⟨w.heap.size, 2, none⟩ = some (.bool t) := (blk_cell hbx 2).trans rfl; have HB1 := Aside0.mk (below_step (below_alloc (Below.refl w.heap.size w) _) hb); clear hb hbx z))
  go_ret
  exact ⟨w1.heap.size, rfl, HB1.out.size, heap_alloc_new w1 _, below_alloc HB1.out _⟩
set_option maxHeartbeats 1000000 in
set_option maxRecDepth 100000 in
theorem feed_nil (now ev : Int) (A : Option Addr) (n c : Nat) (A1 : Option Addr) (n1 c1 : Nat) (A2 : Option Addr) (n2 c2 : Nat) (w : World) : Calls Try.prog 10 #[.pointer none, .int .i64 now, .int .i64 ev, .agg #[.slice A n c, .slice A1 n1 c1], .slice A2 n2 c2] w fun e w' => e = .returned nilV ∧ Below w.heap.size w w' := by
  have hu31 := Try.underlying31
  go_enter Try.func10, Try.ntmps10
  go_wp2
  go_ret
  exact ⟨rfl, below_alloc (Below.refl _ _) _⟩
set_option maxHeartbeats 1000000 in
set_option maxRecDepth 100000 in
theorem next_nil (w : World) : Calls Try.prog 12 #[.pointer none] w fun e w' => e = .returned (.tuple #[.int .i64 0, .bool false]) ∧ Below w.heap.size w w' := by
  go_enter Try.func12, Try.ntmps12
  go_wp2
  go_ret2
  exact ⟨rfl, Below.refl _ _⟩
set_option maxHeartbeats 1000000 in
set_option maxRecDepth 100000 in
theorem len_nil (w : World) : Calls Try.prog 14 #[.pointer none] w fun e w' => e = .returned (.int .i64 0) ∧ Below w.heap.size w w' := by
  go_enter Try.func14, Try.ntmps14
  go_wp2
  go_ret
  exact ⟨rfl, Below.refl _ _⟩
end Go.Proofs.Yteklabhmmfklbaa
namespace Go.Proofs.Yteklabhmmfklbaa
open Go.RowKit Print Go.Proofs.YteklabhmmfklbaaW.PrintWords Go.Proofs.YteklabhmmfklbaaW.PrintLast Go.Proofs.YteklabhmmfklbaaW.PrintMore
set_option linter.unusedVariables false
variable {w W : World} {L : List Asr}
theorem Sep.out {A : Asr} {l : List Asr} {U : Nat → Prop} (h : Sep w (A :: l) U) : ∃ F, A.P w F ∧ (∀ k, F k → ¬ U k) ∧ Sep w l (fun k => U k ∨ F k) := h
theorem Sep.onto (h : Apart w L) (hW : Below w.heap.size w W) : Apart W L := Sep.below h hW
/-! #### New -/
theorem new_sep (k n : Int) (t : Bool) (now : Int) (h : Apart w L) (hW : Below w.heap.size w W) (hc : rate_Check.f 4 k n t = some 0) (n0 : 0 ≤ now) (n1 : now ≤ 1152921504606846976) (hn0 : 0 ≤ n) (hn1 : n ≤ 1099511627776) :
    Calls Try.prog 7 #[.agg #[.int .i64 k, .int .i64 n, .bool t], .int .i64 now] W (fun e w' => ∃ g, e = .returned (.pointer (some ⟨g, 0, none⟩)) ∧ Apart w' (Rt g ⟨k, n, t, now, now + n, 0, false⟩ [] [] :: L)) :=
  (new_any k n t now W hc n0 n1 hn0 hn1).mono fun e w' ⟨g, he, hg, hA, hb⟩ =>
    ⟨g, he, Sep.new (F := fun k => k = g) (h.onto hW) hb ⟨nilV, nilV, fun _ => False, fun _ => False, ⟨hA, Kd.R_nil _ _ _ _ _, Kd.R_nil _ _ _ _ _, id, id, fun _ h => h.elim, fun _ h => h.elim, fun _ h => h.elim⟩, fun k => by simp⟩ (fun k hk => by subst hk; exact hg)⟩
/-! #### Feed -/
/-- The parts of what Feed and Advance leave. -/
theorem sep_told {w' : World} {g : Nat} {s' : St} {ri' ro' : RowsL} {okI okO : Nat → Prop} {v : Value} {ds : List S43} {F : Nat → Prop} (hF : ∀ k, F k ↔ (k = g ∨ okI k ∨ okO k)) (hl : Sep W L F) (h : FeedI W g okI okO (s', ri', ro', ds) v w') (glt : g < W.heap.size) (gI : ¬ okI g) (gO : ¬ okO g) :
    Apart w' (Rt g s' ri' ro' :: Dl v ds :: L) := by
  obtain ⟨vi, vo, okI', okO', okD, hB, hD, hK, hI, hO, hDk⟩ := h
  refine ⟨fun k => k = g ∨ okI' k ∨ okO' k, ⟨vi, vo, okI', okO', hB, fun _ => Iff.rfl⟩, fun _ _ h => h, okD, ⟨hD, fun k hk => (hDk k hk).2.1⟩, fun k hk hu => ?_, ?_⟩
  · rcases hu with h | h | h | h
    · exact h
    · subst h
      rcases (hDk k hk).1 with h | h | h
      · exact gI h
      · exact gO h
      · omega
    · exact (hDk k hk).2.2.1 h
    · exact (hDk k hk).2.2.2 h
  · refine hl.frame hK (fun k hk => (hF k).2 hk) (fun k hu => ?_)
    rcases hu with (h | h | h | h) | h
    · exact h.elim
    · exact .inl ((hF k).2 (.inl h))
    · exact (hI k h).imp (fun h => (hF k).2 (.inr (.inl h))) id
    · exact (hO k h).imp (fun h => (hF k).2 (.inr (.inr h))) id
    · rcases (hDk k h).1 with h | h | h
      · exact .inl ((hF k).2 (.inr (.inl h)))
      · exact .inl ((hF k).2 (.inr (.inr h)))
      · exact .inr h
structure Fits (s : St) (ri ro : RowsL) (now : Int) (xs ys all : RowsL) : Prop where
  g : Good s
  i : Sm ri
  o : Sm ro
  x : Sm xs
  y : Sm ys
  a : Sm all
  ev : 0 ≤ s.events ∧ s.events ≤ late
  zi : ri.length + xs.length ≤ 2097152
  zo : ro.length + ys.length ≤ 2097152
  many : s.t = true → mn (mn (mx now s.clock) late) late + 1 - s.border ≤ 4002 * s.n
theorem feed_core {F okX : Nat → Prop} {g : Nat} {s s' : St} {ri ro ri' ro' : RowsL} {ds : List S43} (now ev : Int) {A A' A2 : Option Addr} {c c' c2 : Nat} {xs ys all : RowsL} (hR : (Rt g s ri ro).P W F) (hl : Sep W L F) (hf : Fits s ri ro now xs ys all)
    (hx : Kd.F kR W okX A xs.length xs) (hxc : xs.length ≤ c) (hy : Kd.F kR W okX A' ys.length ys) (hyc : ys.length ≤ c') (ha : Kd.F kR W okX A2 all.length all) (hac : all.length ≤ c2) (hX : ∀ k, okX k → ¬ F k) (he : feed s ri ro now ev xs ys all = (s', ri', ro', ds)) :
    Calls Try.prog 10 #[.pointer (some ⟨g, 0, none⟩), .int .i64 now, .int .i64 ev, .agg #[.slice A xs.length c, .slice A' ys.length c'], .slice A2 all.length c2] W (fun e w' => ∃ A3 c3, e = .returned (.slice A3 ds.length c3) ∧ Apart w' (Rt g s' ri' ro' :: Dl (.slice A3 ds.length c3) ds :: L)) := by
  obtain ⟨vi, vo, okI, okO, hB, hF⟩ := hR
  refine (feed_any g s vi vo ri ro okI okO now ev A c xs A' c' ys A2 c2 all okX W hB hf.g hf.i hf.o hx hxc hf.x hy hyc hf.y ha hac hf.a (fun k hk => ⟨fun e => hX k hk ((hF k).2 (.inl e)), fun e => hX k hk ((hF k).2 (.inr (.inl e))), fun e => hX k hk ((hF k).2 (.inr (.inr e)))⟩) hf.ev hf.zi hf.zo hf.many).mono fun e w' ⟨v, hv, hI⟩ => ?_
  rw [he] at hI
  have hs := sep_told hF hl hI hB.at_.lt hB.gI hB.gO
  obtain ⟨vi', vo', okI', okO', okD, _, hD, _⟩ := hI
  obtain ⟨A3, c3, rfl⟩ := Kd.R_slice hD
  exact ⟨A3, c3, hv, hs⟩
/-- Feed, of rows that are their own; no rows for the snapshot. -/
theorem feed_sep {g : Nat} {s s' : St} {ri ro ri' ro' : RowsL} {ds : List S43} (now ev : Int) {A A' : Option Addr} {n n' m c c' : Nat} {xs ys : RowsL} (h : Apart w (Rw (.slice A n c) xs :: Rw (.slice A' n' c') ys :: Rt g s ri ro :: L)) (hW : Below w.heap.size w W) (hf : Fits s ri ro now xs ys [])
    (he : feed s ri ro now ev xs ys [] = (s', ri', ro', ds)) (hm : ds.length = m) :
    Calls Try.prog 10 #[.pointer (some ⟨g, 0, none⟩), .int .i64 now, .int .i64 ev, .agg #[.slice A n c, .slice A' n' c'], .slice none 0 0] W (fun e w' => ∃ A3 c3, e = .returned (.slice A3 m c3) ∧ Apart w' (Rt g s' ri' ro' :: Dl (.slice A3 m c3) ds :: L)) := by
  obtain ⟨F1, h1, d1, q1⟩ := Sep.out (h.onto hW)
  obtain ⟨F2, h2, d2, q2⟩ := Sep.out q1
  obtain ⟨F, hR, d3, hl⟩ := Sep.out q2
  replace h1 := h1.1
  replace h2 := h2.1
  have e1 := Kd.R_reads' h1
  have e2 := Kd.R_reads' h2
  obtain ⟨rfl, c1, _⟩ := e1
  obtain ⟨rfl, c2, _⟩ := e2
  subst hm
  have := feed_core (okX := fun k => F1 k ∨ F2 k) (all := []) (A2 := none) (c2 := 0) now ev hR (hl.mono (fun k hk => .inr hk)) hf (Kd.F_mono (Kd.R_F h1) (fun k hk => .inl hk)) c1 (Kd.F_mono (Kd.R_F h2) (fun k hk => .inr hk)) c2 (Kd.F_nil _ _ _) (Nat.le_refl _) (fun k hk hF => d3 k hF (hk.elim (fun h => .inl (.inr h)) .inr)) he
  exact this
/-! #### Advance -/
theorem adv_core {F okA : Nat → Prop} {g : Nat} {s s' : St} {ri ro ri' ro' : RowsL} {ds : List S43} (now : Int) {A : Option Addr} {c : Nat} {all : RowsL} (hR : (Rt g s ri ro).P W F) (hl : Sep W L F) (hG : Good s) (hi : Sm ri) (ho : Sm ro)
    (ha : Kd.F kR W okA A all.length all) (hac : all.length ≤ c) (hs : Sm all) (hX : ∀ k, okA k → ¬ F k) (hmany : s.t = true → mn now late + 1 - s.border ≤ 4002 * s.n) (he : adv s ri ro now all = (s', ri', ro', ds)) :
    Calls Try.prog 11 #[.pointer (some ⟨g, 0, none⟩), .int .i64 now, .slice A all.length c] W (fun e w' => ∃ A3 c3, e = .returned (.slice A3 ds.length c3) ∧ Apart w' (Rt g s' ri' ro' :: Dl (.slice A3 ds.length c3) ds :: L)) := by
  obtain ⟨vi, vo, okI, okO, hB, hF⟩ := hR
  refine (adv_any g s vi vo ri ro okI okO now A c all okA W hB hG hi ho ha (fun h => hX g h ((hF g).2 (.inl rfl))) hac hs hmany).mono fun e w' ⟨v, vi', vo', okD, okI', okO', hv, hB', hD, hK, hI, hO, hDk⟩ => ?_
  rw [he] at hB' hD
  have hs := sep_told hF hl (⟨vi', vo', okI', okO', okD, hB', hD, hK.mono (fun _ h => .inl h), fun k h => .inl (hI k h), fun k h => .inl (hO k h), hDk⟩ : FeedI W g okI okO (s', ri', ro', ds) v w') hB.at_.lt hB.gI hB.gO
  obtain ⟨A3, c3, rfl⟩ := Kd.R_slice hD
  exact ⟨A3, c3, hv, hs⟩
theorem adv_sep0 {g : Nat} {s s' : St} {ri ro ri' ro' : RowsL} {ds : List S43} {m : Nat} (now : Int) (h : Apart w (Rt g s ri ro :: L)) (hW : Below w.heap.size w W) (hG : Good s) (hi : Sm ri) (ho : Sm ro) (hmany : s.t = true → mn now late + 1 - s.border ≤ 4002 * s.n)
    (he : adv s ri ro now [] = (s', ri', ro', ds)) (hm : ds.length = m) :
    Calls Try.prog 11 #[.pointer (some ⟨g, 0, none⟩), .int .i64 now, .slice none 0 0] W (fun e w' => ∃ A3 c3, e = .returned (.slice A3 m c3) ∧ Apart w' (Rt g s' ri' ro' :: Dl (.slice A3 m c3) ds :: L)) := by
  obtain ⟨F, hR, _, hl⟩ := h.onto hW
  subst hm
  have := adv_core (okA := fun _ => False) (all := []) (A := none) (c := 0) now hR (hl.mono (fun k hk => .inr hk)) hG hi ho (Kd.F_nil _ _ _) (Nat.le_refl _) Sm.nil (fun _ h => h.elim) hmany he
  exact this
theorem adv_sep {g : Nat} {s s' : St} {ri ro ri' ro' : RowsL} {ds : List S43} {A : Option Addr} {n m c : Nat} {all : RowsL} (now : Int) (h : Apart w (Rw (.slice A n c) all :: Rt g s ri ro :: L)) (hW : Below w.heap.size w W) (hG : Good s) (hi : Sm ri) (ho : Sm ro) (hs : Sm all) (hmany : s.t = true → mn now late + 1 - s.border ≤ 4002 * s.n)
    (he : adv s ri ro now all = (s', ri', ro', ds)) (hm : ds.length = m) :
    Calls Try.prog 11 #[.pointer (some ⟨g, 0, none⟩), .int .i64 now, .slice A n c] W (fun e w' => ∃ A3 c3, e = .returned (.slice A3 m c3) ∧ Apart w' (Rt g s' ri' ro' :: Dl (.slice A3 m c3) ds :: L)) := by
  obtain ⟨F1, h1, d1, q1⟩ := Sep.out (h.onto hW)
  obtain ⟨F, hR, d3, hl⟩ := Sep.out q1
  replace h1 := h1.1
  obtain ⟨rfl, c1, _⟩ := Kd.R_reads' h1
  subst hm
  exact adv_core now hR (hl.mono (fun k hk => .inr hk)) hG hi ho (Kd.R_F h1) c1 hs (fun k hk hF => d3 k hF (.inr hk)) hmany he
/-! #### literals -/
theorem lit_int (w : World) (l : List Int) (hl : l.length ≤ 9223372036854775807) : Kd.C (Kd.int .i64) (w.alloc (.cells (l.map (Value.int .i64)).toArray 3)) (some ⟨w.heap.size, 0, none⟩) l.length l := by
  refine ⟨rfl, hl, fun _ => ⟨_, rfl, fun j p hj => ⟨[.int .i64 p], rfl, rfl, fun i u hu => ?_⟩⟩⟩
  rcases i with _ | i
  · have hu' : Value.int .i64 p = u := by simpa using hu
    subst hu'
    have hb : (w.alloc (.cells (l.map (Value.int .i64)).toArray 3)).heap[w.heap.size]? = some (.cells (l.map (Value.int .i64)).toArray 3 (0, 0)) := heap_alloc_new w _
    have := blk_cell hb j
    have sz : (Kd.int .i64).sz = 1 := rfl
    rw [sz, Nat.mul_one, Nat.add_zero, add_plain]
    try rw [Nat.zero_add]
    refine this.trans ?_
    simp [hj]
  · simp at hu
def X (l : List Int) : RowsL := l.map fun a => [(⟨2, a, ⟨#[]⟩⟩ : S68)]
theorem R_empty {w : World} {b : Nat} {ok : Nat → Prop} {v : Value} (h : kR.R 61 w b ok v []) : kR.R 61 w b (fun k => v.ownBlock = some k) v [] :=
  ⟨fun _ hk => hk, by obtain ⟨inner, ho, hr⟩ := h.2; exact ⟨inner, ho, hr.1, fun j p hj => by simp at hj⟩⟩
theorem in_sep (l : List Int) (hl : l.length ≤ 4) (h : Apart w L) (hf : marqueelaw20_in.f 5 l = some (X l, [])) :
    Calls Try.prog 25 #[.slice (some ⟨w.heap.size, 0, none⟩) l.length l.length] (w.alloc (.cells (l.map (Value.int .i64)).toArray 3)) (fun e w' => ∃ A c A' c', e = .returned (.agg #[.slice A l.length c, .slice A' 0 c']) ∧ Apart w' (Rw (.slice A l.length c) (X l) :: Rw (.slice A' 0 c') [] :: L)) := by
  have hb0 := below_alloc (Below.refl w.heap.size w) (.cells (l.map (Value.int .i64)).toArray 3)
  refine (marqueelaw20_in.calls 5 _ l.length l (X l) [] _ (lit_int w l (by omega)) (Nat.le_refl _) hf).mono fun e w' ⟨v0, v1, he, h0, h1, hb⟩ => ?_
  have r0 := Kd.R_bound (Kd.S_R h0)
  have r1 := R_empty (Kd.S_R h1)
  have b1 := Kd.R_bound (Kd.S_R h1)
  obtain ⟨A, c, rfl⟩ := Kd.R_slice r0
  obtain ⟨A', c', rfl⟩ := Kd.R_slice r1
  have hs : (w.alloc (.cells (l.map (Value.int .i64)).toArray 3)).heap.size = w.heap.size + 1 := by simp
  have xl : (X l).length = l.length := List.length_map ..
  have hbb : Below w.heap.size w w' := below_step hb0 hb
  rw [xl] at he r0
  have hlow : ∀ k, (Value.slice A' 0 c').ownBlock = some k → w.heap.size ≤ k ∧ k < w'.heap.size := fun k hk => by
    have := b1.1 k hk
    have h2 := this.2.1
    have h3 := this.2.2.1
    exact ⟨by omega, h3⟩
  refine ⟨A, c, A', c', he, ?_⟩
  refine ⟨_, ⟨Kd.R_lower r0 (Nat.zero_le _), fun k hk => hk.2.2.1⟩, fun _ _ h => h, _, ⟨Kd.R_lower r1 (Nat.zero_le _), fun k hk => (hlow k hk).2⟩, fun k hk hu => ?_, ?_⟩
  · rcases hu with h | h
    · exact h
    · exact h.1 hk.symm
  · refine Sep.frame (K3.of_below hbb (fun _ => False)) h (fun _ hs => hs.elim) (fun k hu => ?_)
    rcases hu with (h | h) | h
    · exact h.elim
    · have := h.2.1; exact .inr (by omega)
    · exact .inr (hlow k h).1
/-! #### same -/
theorem same_sep (A : Option Addr) (n c : Nat) (A' : Option Addr) (c' : Nat) (ds : List S43) {i : Nat} {L' : List Asr} (h : Apart w L) (hi : pick i L = Dl (.slice A n c) ds :: L') (hW : Below w.heap.size w W) (hC : k43.C W A' n ds) (hc : n ≤ c') (hs : SmD ds) :
    Calls Try.prog 13 #[.slice A n c, .slice A' n c'] W (fun e w' => e = .returned (.bool true) ∧ Apart w' L) := by
  have h2 := h.onto hW
  have h3 := h2.pick i
  rw [hi] at h3
  obtain ⟨F, ⟨hR, _⟩, _⟩ := h3
  obtain ⟨rfl, hcc, hC0⟩ := Kd.R_reads' hR
  exact (same_any A c A' c' ds W hC0 hcc hC hc hs).mono fun e w' ⟨he, hb⟩ => ⟨he, h2.onto hb⟩
end Go.Proofs.Yteklabhmmfklbaa
namespace Go.Proofs.Yteklabhmmfklbaa
open Go.RowKit Print Go.Proofs.YteklabhmmfklbaaW.PrintWords Go.Proofs.YteklabhmmfklbaaW.PrintLast Go.Proofs.YteklabhmmfklbaaW.PrintMore
set_option linter.unusedVariables false
variable {w W : World} {L : List Asr}
theorem in1 (x : Int) (h : Apart w L) (hf : marqueelaw20_in.f 5 [x] = some (X [x], [])) :
    Calls Try.prog 25 #[.slice (some ⟨w.heap.size, 0, none⟩) 1 1] (w.alloc (.cells #[.int .i64 x] 3)) (fun e w' => ∃ A c A' c', e = .returned (.agg #[.slice A 1 c, .slice A' 0 c']) ∧ Apart w' (Rw (.slice A 1 c) (X [x]) :: Rw (.slice A' 0 c') [] :: L)) :=
  in_sep [x] (by simp) h hf
theorem in2 (x y : Int) (h : Apart w L) (hf : marqueelaw20_in.f 5 [x, y] = some (X [x, y], [])) :
    Calls Try.prog 25 #[.slice (some ⟨w.heap.size, 0, none⟩) 2 2] (w.alloc (.cells #[.int .i64 x, .int .i64 y] 3)) (fun e w' => ∃ A c A' c', e = .returned (.agg #[.slice A 2 c, .slice A' 0 c']) ∧ Apart w' (Rw (.slice A 2 c) (X [x, y]) :: Rw (.slice A' 0 c') [] :: L)) :=
  in_sep [x, y] (by simp) h hf
/-- One row. -/
def Rv (v : Value) (l : List S68) : Asr where
  P w F := k68.R 68 w 0 F v l ∧ ∀ k, F k → k < w.heap.size
  lt h := h.2
  keep h hk hd := ⟨K3.R h.1 hk hd, fun k hf => Nat.lt_of_lt_of_le (h.2 k hf) hk.1⟩
theorem row_sep (x : Int) (h : Apart w L) (hW : Below w.heap.size w W) : Calls Try.prog 26 #[.int .i64 x] W (fun e w' => ∃ A c, e = .returned (.slice A 1 c) ∧ Apart w' (Rv (.slice A 1 c) [⟨2, x, ⟨#[]⟩⟩] :: L)) :=
  (marqueelaw20_row.calls x _ W rfl).mono fun e w' ⟨v, he, hR, hb⟩ => by
    obtain ⟨A, c, rfl⟩ := Kd.R_slice hR
    exact ⟨A, c, he, Sep.new (h.onto hW) hb ⟨Kd.R_lower (Kd.R_bound hR) (Nat.zero_le _), fun k hk => hk.2.2.1⟩ (fun k hk => hk.2.1)⟩
theorem rw_one {v : Value} {x : List S68} (h : Apart w (Rv v x :: L)) : Apart (w.alloc (.cells #[v] 61)) (Rw (.slice (some ⟨w.heap.size, 0, none⟩) 1 1) [x] :: L) := by
  obtain ⟨F, hR, hd, hl⟩ := Sep.out h
  have al := below_alloc (Below.refl w.heap.size w) (.cells #[v] 61)
  have hs : (w.alloc (.cells #[v] 61)).heap.size = w.heap.size + 1 := by simp
  refine ⟨fun k => F k ∨ k = w.heap.size, ⟨⟨fun k hk => ?_, [v], ?_, ?_⟩, fun k hk => ?_⟩, fun _ _ h => h, ?_⟩
  · exact .inr (by simpa [Value.ownBlock] using hk.symm)
  · have h2 := World.ownsRow_lit (base := 0) (e := 61) (size := 1) w #[v] 1 (Nat.zero_le _) (by simp [maxLen]) (by simp)
    have h3 : (w.alloc (Obj.cells #[v] 61)).ownsRow 0 61 1 (Value.slice (some { block := w.heap.size, off := 0 }) 1 1) 1 [v] := by simpa using h2
    exact h3
  · refine Reps.one (Kd.M_row (Kd.R_mono (Kd.R_below hR.1 al) (fun k hk => ⟨.inl hk, fun e => ?_⟩))) (Reps.none _ _)
    have := hR.2 k hk
    have e2 : k = w.heap.size := by simpa [Value.ownBlock] using e
    omega
  · rw [hs]
    rcases hk with hk | hk
    · have := hR.2 k hk; omega
    · omega
  · refine Sep.frame (K3.of_below al (fun _ => False)) hl (fun _ hs => hs.elim) (fun k hu => ?_)
    rcases hu with h | h | h
    · exact h.elim
    · exact .inl (.inr h)
    · exact .inr (by omega)
/-- One delivery's cells. -/
theorem cells43 {b : Nat} {w : World} {cs : List Value} {t : Int} {v1 v2 : Value} {xs ys : RowsL} {ok1 ok2 : Nat → Prop} (h1 : kR.R 61 w 0 ok1 v1 xs) (h2 : kR.R 61 w 0 ok2 v2 ys) : k43.K w ⟨t, ⟨xs, ys⟩⟩ [.int .i64 t, v1, v2] := by
  obtain ⟨A1, c1, rfl, l1, g1⟩ := Kd.R_reads h1
  obtain ⟨A2, c2, rfl, l2, g2⟩ := Kd.R_reads h2
  exact k43_mk w ⟨t, ⟨xs, ys⟩⟩ l1 g1 l2 g2
theorem same_lit (A : Option Addr) (c : Nat) (t : Int) (xs ys : RowsL) (v1 v2 : Value) {i : Nat} {L' : List Asr} (h : Apart w (Rw v1 xs :: Rw v2 ys :: L)) (hi : pick i L = Dl (.slice A 1 c) [⟨t, ⟨xs, ys⟩⟩] :: L') (hs : Sm xs ∧ Sm ys) :
    Calls Try.prog 13 #[.slice A 1 c, .slice (some ⟨w.heap.size, 0, none⟩) 1 1] (w.alloc (.cells #[.int .i64 t, v1, v2] 43)) (fun e w' => e = .returned (.bool true) ∧ Apart w' L) := by
  have al := below_alloc (Below.refl w.heap.size w) (.cells #[.int .i64 t, v1, v2] 43)
  obtain ⟨F1, h1, d1, q1⟩ := Sep.out (h.onto al)
  obtain ⟨F2, h2, d2, q2⟩ := Sep.out q1
  refine same_sep A 1 c _ 1 _ (h.tail.tail) hi al ⟨rfl, by omega, fun _ => ⟨_, rfl, fun j p hj => ?_⟩⟩ (Nat.le_refl _) ⟨by simp, fun x hx => by rw [List.mem_singleton] at hx; subst hx; exact hs⟩
  rcases j with _ | j
  · simp only [List.getElem?_cons_zero, Option.some.injEq] at hj
    subst hj
    refine ⟨[.int .i64 t, v1, v2], rfl, cells43 (b := 0) (cs := []) h1.1 h2.1, fun i u hu => ?_⟩
    rw [add_plain, Nat.zero_mul, Nat.zero_add]
    exact (blk_cell (heap_alloc_new w _) i).trans (by simpa using hu)
  · simp at hj
theorem same_lit2 (A : Option Addr) (c : Nat) (t t' : Int) (xs ys xs' ys' : RowsL) (v1 v2 v3 v4 : Value) {i : Nat} {L' : List Asr} (h : Apart w (Rw v3 xs' :: Rw v4 ys' :: Rw v1 xs :: Rw v2 ys :: L)) (hi : pick i L = Dl (.slice A 2 c) [⟨t, ⟨xs, ys⟩⟩, ⟨t', ⟨xs', ys'⟩⟩] :: L') (hs : (Sm xs ∧ Sm ys) ∧ Sm xs' ∧ Sm ys') :
    Calls Try.prog 13 #[.slice A 2 c, .slice (some ⟨w.heap.size, 0, none⟩) 2 2] (w.alloc (.cells #[.int .i64 t, v1, v2, .int .i64 t', v3, v4] 43)) (fun e w' => e = .returned (.bool true) ∧ Apart w' L) := by
  have al := below_alloc (Below.refl w.heap.size w) (.cells #[.int .i64 t, v1, v2, .int .i64 t', v3, v4] 43)
  obtain ⟨F3, h3, d3, q3⟩ := Sep.out (h.onto al)
  obtain ⟨F4, h4, d4, q4⟩ := Sep.out q3
  obtain ⟨F1, h1, d1, q1⟩ := Sep.out q4
  obtain ⟨F2, h2, d2, q2⟩ := Sep.out q1
  refine same_sep A 2 c _ 2 _ (h.tail.tail.tail.tail) hi al ⟨rfl, by omega, fun _ => ⟨_, rfl, fun j p hj => ?_⟩⟩ (Nat.le_refl _) ⟨by simp, fun x hx => by
    simp only [List.mem_cons, List.not_mem_nil, or_false] at hx
    rcases hx with rfl | rfl
    · exact hs.1
    · exact hs.2⟩
  rcases j with _ | _ | j
  · simp only [List.getElem?_cons_zero, Option.some.injEq] at hj
    subst hj
    refine ⟨[.int .i64 t, v1, v2], rfl, cells43 (b := 0) (cs := []) h1.1 h2.1, fun i u hu => ?_⟩
    rw [add_plain, Nat.zero_mul, Nat.zero_add]
    refine (blk_cell (heap_alloc_new w _) i).trans ?_
    rcases i with _ | _ | _ | i
    · exact hu
    · exact hu
    · exact hu
    · simp at hu
  · simp only [Nat.zero_add, List.getElem?_cons_succ, List.getElem?_cons_zero, Option.some.injEq] at hj
    subst hj
    refine ⟨[.int .i64 t', v3, v4], rfl, cells43 (b := 0) (cs := []) h3.1 h4.1, fun i u hu => ?_⟩
    have sz : k43.sz = 3 := rfl
    rw [add_plain, sz]
    refine (blk_cell (heap_alloc_new w _) ((0 + 1) * 3 + i)).trans ?_
    rcases i with _ | _ | _ | i
    · exact hu
    · exact hu
    · exact hu
    · simp at hu
  · simp at hj
theorem adv_lit {g : Nat} {s s' : St} {ri ro ri' ro' : RowsL} {ds : List S43} {m : Nat} {v : Value} {x : List S68} (now : Int) (h : Apart w (Rv v x :: Rt g s ri ro :: L)) (hG : Good s) (hi : Sm ri) (ho : Sm ro) (hs : Sm [x]) (hmany : s.t = true → mn now late + 1 - s.border ≤ 4002 * s.n)
    (he : adv s ri ro now [x] = (s', ri', ro', ds)) (hm : ds.length = m) :
    Calls Try.prog 11 #[.pointer (some ⟨g, 0, none⟩), .int .i64 now, .slice (some ⟨w.heap.size, 0, none⟩) 1 1] (w.alloc (.cells #[v] 61)) (fun e w' => ∃ A3 c3, e = .returned (.slice A3 m c3) ∧ Apart w' (Rt g s' ri' ro' :: Dl (.slice A3 m c3) ds :: L)) :=
  adv_sep now (rw_one h) (Below.refl _ _) hG hi ho hs hmany he hm
theorem Sm.X (l : List Int) (h : l.length ≤ 4) : Sm (X l) := ⟨by unfold Yteklabhmmfklbaa.X; rw [List.length_map]; omega, fun x hx => by
  obtain ⟨a, _, rfl⟩ := List.mem_map.1 hx
  simp⟩
end Go.Proofs.Yteklabhmmfklbaa
namespace Go.Proofs.Yteklabhmmfklbaa
open Go.RowKit Print Go.Proofs.YteklabhmmfklbaaW.PrintWords Go.Proofs.YteklabhmmfklbaaW.PrintLast Go.Proofs.YteklabhmmfklbaaW.PrintMore
set_option linter.unusedVariables false
set_option maxHeartbeats 2000000 in
set_option maxRecDepth 100000 in
theorem len_at (g : Nat) (s : St) (A0 : Option Addr) (n0 c0 : Nat) (A1 : Option Addr) (n1 c1 : Nat) (w : World) (h : At 59 w g s (.slice A0 n0 c0) (.slice A1 n1 c1)) (h0 : n0 ≤ 4398046511104) (h1 : n1 ≤ 4398046511104) :
    Calls Try.prog 14 #[.pointer (some ⟨g, 0, none⟩)] w fun e w' => e = .returned (.int .i64 ((n0 : Int) + n1)) ∧ Below w.heap.size w w' := by
  have hu31 := Try.underlying31
  obtain ⟨a0, a1, a2, a3, a4, a5, a6, a7, a8⟩ := h.cells
  clear h
  go_enter Try.func14, Try.ntmps14
  go_upto_region 3 with fail
  go_quiet (fail)
  go_wp2
  go_ret
  exact ⟨rfl, by repeat (first | exact Below.refl _ _ | apply below_alloc | apply pw_below_drewN | apply below_drew1)⟩
theorem len_sep {w W : World} {L L' : List Asr} {g : Nat} {s : St} {ri ro : RowsL} {j : Nat} (h : Apart w L) (hj : pick j L = Rt g s ri ro :: L') (hW : Below w.heap.size w W) (hi : Sm ri) (ho : Sm ro) :
    Calls Try.prog 14 #[.pointer (some ⟨g, 0, none⟩)] W fun e w' => e = .returned (.int .i64 ((ri.length : Int) + ro.length)) ∧ Apart w' L := by
  have h2 := h.onto hW
  have h3 := h2.pick j
  rw [hj] at h3
  obtain ⟨F, ⟨vi, vo, okI, okO, hB, _⟩, _⟩ := Sep.out h3
  have hi1 := hi.1
  have ho1 := ho.1
  obtain ⟨A0, c0, rfl⟩ := Kd.R_slice hB.hi
  obtain ⟨A1, c1, rfl⟩ := Kd.R_slice hB.ho
  exact (len_at g s A0 _ c0 A1 _ c1 W hB.at_ (by omega) (by omega)).mono fun e w' ⟨he, hb⟩ => ⟨he, h2.onto hb⟩
end Go.Proofs.Yteklabhmmfklbaa
