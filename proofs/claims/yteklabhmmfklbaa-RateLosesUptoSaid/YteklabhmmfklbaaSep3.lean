import Derived.Test.YteklabhmmfklbaaSep2
namespace Go.Proofs.Yteklabhmmfklbaa
open Go.RowKit Print Go.Proofs.YteklabhmmfklbaaW.PrintWords Go.Proofs.YteklabhmmfklbaaW.PrintLast Go.Proofs.YteklabhmmfklbaaW.PrintMore
set_option linter.unusedVariables false
variable {w W : World} {L : List Asr}
theorem in1 (x : Int) (h : Apart w L) (hf : marqueelaw20_in.f 5 [x] = some (X [x], [])) :
    Calls Try.prog 25 #[.slice (some ⟨w.heap.size, 0, none⟩) 1 1] (w.alloc (.cells #[.int .i64 x] 3)) (fun e w' => ∃ A c A' c', e = .returned (.agg #[.slice A 1 c, .slice A' 0 c']) ∧ Apart w' (Rw (.slice A 1 c) (X [x]) :: Rw (.slice A' 0 c') [] :: L)) :=
  in_sep [x] (by simp) h hf
theorem in2 (x y : Int) (h : Apart w L) (hf : marqueelaw20_in.f 5 [x, y] = some (X [x, y], [])) :
    Calls Try.prog 25 #[.slice (some ⟨w.heap.size, 0, none⟩) 2 2] (w.alloc (.cells #[.int .i64 x, .int .i64 y] 3)) (fun e w' => ∃ A c A' c', e = .returned (.agg #[.slice A 2 c, .slice A' 0 c']) ∧ Apart w' (Rw (.slice A 2 c) (X [x, y]) :: Rw (.slice A' 0 c') [] :: L)) :=
  in_sep [x, y] (by simp) h hf
/-- One row. -/
def Rv (v : Value) (l : List S68) : Asr where
  P w F := k68.R 68 w 0 F v l ∧ ∀ k, F k → k < w.heap.size
  lt h := h.2
  keep h hk hd := ⟨K3.R h.1 hk hd, fun k hf => Nat.lt_of_lt_of_le (h.2 k hf) hk.1⟩
theorem row_sep (x : Int) (h : Apart w L) (hW : Below w.heap.size w W) : Calls Try.prog 26 #[.int .i64 x] W (fun e w' => ∃ A c, e = .returned (.slice A 1 c) ∧ Apart w' (Rv (.slice A 1 c) [⟨2, x, ⟨#[]⟩⟩] :: L)) :=
  (marqueelaw20_row.calls x _ W rfl).mono fun e w' ⟨v, he, hR, hb⟩ => by
    obtain ⟨A, c, rfl⟩ := Kd.R_slice hR
    exact ⟨A, c, he, Sep.new (h.onto hW) hb ⟨Kd.R_lower (Kd.R_bound hR) (Nat.zero_le _), fun k hk => hk.2.2.1⟩ (fun k hk => hk.2.1)⟩
theorem rw_one {v : Value} {x : List S68} (h : Apart w (Rv v x :: L)) : Apart (w.alloc (.cells #[v] 61)) (Rw (.slice (some ⟨w.heap.size, 0, none⟩) 1 1) [x] :: L) := by
  obtain ⟨F, hR, hd, hl⟩ := Sep.out h
  have al := below_alloc (Below.refl w.heap.size w) (.cells #[v] 61)
  have hs : (w.alloc (.cells #[v] 61)).heap.size = w.heap.size + 1 := by simp
  refine ⟨fun k => F k ∨ k = w.heap.size, ⟨⟨fun k hk => ?_, [v], ?_, ?_⟩, fun k hk => ?_⟩, fun _ _ h => h, ?_⟩
  · exact .inr (by simpa [Value.ownBlock] using hk.symm)
  · have h2 := World.ownsRow_lit (base := 0) (e := 61) (size := 1) w #[v] 1 (Nat.zero_le _) (by simp [maxLen]) (by simp)
    have h3 : (w.alloc (Obj.cells #[v] 61)).ownsRow 0 61 1 (Value.slice (some { block := w.heap.size, off := 0 }) 1 1) 1 [v] := by simpa using h2
    exact h3
  · refine Reps.one (Kd.M_row (Kd.R_mono (Kd.R_below hR.1 al) (fun k hk => ⟨.inl hk, fun e => ?_⟩))) (Reps.none _ _)
    have := hR.2 k hk
    have e2 : k = w.heap.size := by simpa [Value.ownBlock] using e
    omega
  · rw [hs]
    rcases hk with hk | hk
    · have := hR.2 k hk; omega
    · omega
  · refine Sep.frame (K3.of_below al (fun _ => False)) hl (fun _ hs => hs.elim) (fun k hu => ?_)
    rcases hu with h | h | h
    · exact h.elim
    · exact .inl (.inr h)
    · exact .inr (by omega)
/-- One delivery's cells. -/
theorem cells43 {b : Nat} {w : World} {cs : List Value} {t : Int} {v1 v2 : Value} {xs ys : RowsL} {ok1 ok2 : Nat → Prop} (h1 : kR.R 61 w 0 ok1 v1 xs) (h2 : kR.R 61 w 0 ok2 v2 ys) : k43.K w ⟨t, ⟨xs, ys⟩⟩ [.int .i64 t, v1, v2] := by
  obtain ⟨A1, c1, rfl, l1, g1⟩ := Kd.R_reads h1
  obtain ⟨A2, c2, rfl, l2, g2⟩ := Kd.R_reads h2
  exact k43_mk w ⟨t, ⟨xs, ys⟩⟩ l1 g1 l2 g2
theorem same_lit (A : Option Addr) (c : Nat) (t : Int) (xs ys : RowsL) (v1 v2 : Value) {i : Nat} {L' : List Asr} (h : Apart w (Rw v1 xs :: Rw v2 ys :: L)) (hi : pick i L = Dl (.slice A 1 c) [⟨t, ⟨xs, ys⟩⟩] :: L') (hs : Sm xs ∧ Sm ys) :
    Calls Try.prog 13 #[.slice A 1 c, .slice (some ⟨w.heap.size, 0, none⟩) 1 1] (w.alloc (.cells #[.int .i64 t, v1, v2] 43)) (fun e w' => e = .returned (.bool true) ∧ Apart w' L) := by
  have al := below_alloc (Below.refl w.heap.size w) (.cells #[.int .i64 t, v1, v2] 43)
  obtain ⟨F1, h1, d1, q1⟩ := Sep.out (h.onto al)
  obtain ⟨F2, h2, d2, q2⟩ := Sep.out q1
  refine same_sep A 1 c _ 1 _ (h.tail.tail) hi al ⟨rfl, by omega, fun _ => ⟨_, rfl, fun j p hj => ?_⟩⟩ (Nat.le_refl _) ⟨by simp, fun x hx => by rw [List.mem_singleton] at hx; subst hx; exact hs⟩
  rcases j with _ | j
  · simp only [List.getElem?_cons_zero, Option.some.injEq] at hj
    subst hj
    refine ⟨[.int .i64 t, v1, v2], rfl, cells43 (b := 0) (cs := []) h1.1 h2.1, fun i u hu => ?_⟩
    rw [add_plain, Nat.zero_mul, Nat.zero_add]
    exact (blk_cell (heap_alloc_new w _) i).trans (by simpa using hu)
  · simp at hj
theorem same_lit2 (A : Option Addr) (c : Nat) (t t' : Int) (xs ys xs' ys' : RowsL) (v1 v2 v3 v4 : Value) {i : Nat} {L' : List Asr} (h : Apart w (Rw v3 xs' :: Rw v4 ys' :: Rw v1 xs :: Rw v2 ys :: L)) (hi : pick i L = Dl (.slice A 2 c) [⟨t, ⟨xs, ys⟩⟩, ⟨t', ⟨xs', ys'⟩⟩] :: L') (hs : (Sm xs ∧ Sm ys) ∧ Sm xs' ∧ Sm ys') :
    Calls Try.prog 13 #[.slice A 2 c, .slice (some ⟨w.heap.size, 0, none⟩) 2 2] (w.alloc (.cells #[.int .i64 t, v1, v2, .int .i64 t', v3, v4] 43)) (fun e w' => e = .returned (.bool true) ∧ Apart w' L) := by
  have al := below_alloc (Below.refl w.heap.size w) (.cells #[.int .i64 t, v1, v2, .int .i64 t', v3, v4] 43)
  obtain ⟨F3, h3, d3, q3⟩ := Sep.out (h.onto al)
  obtain ⟨F4, h4, d4, q4⟩ := Sep.out q3
  obtain ⟨F1, h1, d1, q1⟩ := Sep.out q4
  obtain ⟨F2, h2, d2, q2⟩ := Sep.out q1
  refine same_sep A 2 c _ 2 _ (h.tail.tail.tail.tail) hi al ⟨rfl, by omega, fun _ => ⟨_, rfl, fun j p hj => ?_⟩⟩ (Nat.le_refl _) ⟨by simp, fun x hx => by
    simp only [List.mem_cons, List.not_mem_nil, or_false] at hx
    rcases hx with rfl | rfl
    · exact hs.1
    · exact hs.2⟩
  rcases j with _ | _ | j
  · simp only [List.getElem?_cons_zero, Option.some.injEq] at hj
    subst hj
    refine ⟨[.int .i64 t, v1, v2], rfl, cells43 (b := 0) (cs := []) h1.1 h2.1, fun i u hu => ?_⟩
    rw [add_plain, Nat.zero_mul, Nat.zero_add]
    refine (blk_cell (heap_alloc_new w _) i).trans ?_
    rcases i with _ | _ | _ | i
    · exact hu
    · exact hu
    · exact hu
    · simp at hu
  · simp only [Nat.zero_add, List.getElem?_cons_succ, List.getElem?_cons_zero, Option.some.injEq] at hj
    subst hj
    refine ⟨[.int .i64 t', v3, v4], rfl, cells43 (b := 0) (cs := []) h3.1 h4.1, fun i u hu => ?_⟩
    have sz : k43.sz = 3 := rfl
    rw [add_plain, sz]
    refine (blk_cell (heap_alloc_new w _) ((0 + 1) * 3 + i)).trans ?_
    rcases i with _ | _ | _ | i
    · exact hu
    · exact hu
    · exact hu
    · simp at hu
  · simp at hj
theorem adv_lit {g : Nat} {s s' : St} {ri ro ri' ro' : RowsL} {ds : List S43} {m : Nat} {v : Value} {x : List S68} (now : Int) (h : Apart w (Rv v x :: Rt g s ri ro :: L)) (hG : Good s) (hi : Sm ri) (ho : Sm ro) (hs : Sm [x]) (hmany : s.t = true → mn now late + 1 - s.border ≤ 4002 * s.n)
    (he : adv s ri ro now [x] = (s', ri', ro', ds)) (hm : ds.length = m) :
    Calls Try.prog 11 #[.pointer (some ⟨g, 0, none⟩), .int .i64 now, .slice (some ⟨w.heap.size, 0, none⟩) 1 1] (w.alloc (.cells #[v] 61)) (fun e w' => ∃ A3 c3, e = .returned (.slice A3 m c3) ∧ Apart w' (Rt g s' ri' ro' :: Dl (.slice A3 m c3) ds :: L)) :=
  adv_sep now (rw_one h) (Below.refl _ _) hG hi ho hs hmany he hm
theorem Sm.X (l : List Int) (h : l.length ≤ 4) : Sm (X l) := ⟨by unfold Yteklabhmmfklbaa.X; rw [List.length_map]; omega, fun x hx => by
  obtain ⟨a, _, rfl⟩ := List.mem_map.1 hx
  simp⟩
end Go.Proofs.Yteklabhmmfklbaa
