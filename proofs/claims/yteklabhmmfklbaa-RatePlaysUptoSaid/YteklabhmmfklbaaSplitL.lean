import Derived.Test.YteklabhmmfklbaaMgC
import Derived.Test.YteklabhmmfklbaaSure
import Derived.Test.YteklabhmmfklbaaMgO
namespace Go.Proofs.Yteklabhmmfklbaa
open Go.RowKit Print Go.Proofs.YteklabhmmfklbaaW.PrintWords Go.Proofs.YteklabhmmfklbaaW.PrintLast Go.Proofs.YteklabhmmfklbaaW.PrintMore
set_option linter.unusedVariables false
variable {w W : World} {L : List Asr}
abbrev O33 := Bool × Int × Int × S31 × List (List S68)
def z33 : O33 := (false, 0, 0, z31, [])
def rd33 (l : List O33) (i : Int) : O33 := l.getD i.toNat z33
theorem at33 {w wr : World} {A : Option Addr} {l : List O33} (h : Kd.C k33 w A l.length l) (hb : Below w.heap.size w wr) (i : Int) (h0 : 0 ≤ i) (h1 : i < l.length) : ∃ ad A0 c0 A1 c1 A2 c2, A = some ad ∧
    wr.cell? ⟨(ad.add (i.toNat * 6)).block, (ad.add (i.toNat * 6)).off + 1, none⟩ = some (.int .i64 (rd33 l i).2.1) ∧ wr.cell? ⟨(ad.add (i.toNat * 6)).block, (ad.add (i.toNat * 6)).off + 2, none⟩ = some (.int .i64 (rd33 l i).2.2.1) ∧
    wr.cell? ⟨(ad.add (i.toNat * 6)).block, (ad.add (i.toNat * 6)).off + 3, none⟩ = some (.slice A0 (rd33 l i).2.2.2.1.f0.length c0) ∧ wr.cell? ⟨(ad.add (i.toNat * 6)).block, (ad.add (i.toNat * 6)).off + 4, none⟩ = some (.slice A1 (rd33 l i).2.2.2.1.f1.length c1) ∧
    wr.cell? ⟨(ad.add (i.toNat * 6)).block, (ad.add (i.toNat * 6)).off + 5, none⟩ = some (.slice A2 (rd33 l i).2.2.2.2.length c2) ∧
    Kd.F kR wr (fun k => k < w.heap.size) A0 (rd33 l i).2.2.2.1.f0.length (rd33 l i).2.2.2.1.f0 ∧ (rd33 l i).2.2.2.1.f0.length ≤ c0 ∧ Kd.F kR wr (fun k => k < w.heap.size) A1 (rd33 l i).2.2.2.1.f1.length (rd33 l i).2.2.2.1.f1 ∧ (rd33 l i).2.2.2.1.f1.length ≤ c1 ∧
    Kd.F kR wr (fun k => k < w.heap.size) A2 (rd33 l i).2.2.2.2.length (rd33 l i).2.2.2.2 ∧ (rd33 l i).2.2.2.2.length ≤ c2 := by
  obtain ⟨ad, c, e, _, hK, hc0⟩ := Kd.C_get h z33 i h0 h1
  have hc : ∀ j u, c[j]? = some u → w.cell? (ad.add (i.toNat * 6 + j)) = some u := hc0
  have hcr : ∀ j u, c[j]? = some u → wr.cell? (ad.add (i.toNat * 6 + j)) = some u := fun j u hu => (hb.cell (World.block_lt_of_cell? w _ (hc j u hu))).trans (hc j u hu)
  obtain ⟨A0, c0, A1, c1, A2, c2, rfl, l0, g0, l1, g1, l2, g2⟩ := k33_open hK
  refine ⟨ad, A0, c0, A1, c1, A2, c2, e, ?_, ?_, ?_, ?_, ?_, Kd.F_below (Kd.C_F heap_kR g0) hb, l0, Kd.F_below (Kd.C_F heap_kR g1) hb, l1, Kd.F_below (Kd.C_F heap_kR g2) hb, l2⟩
  · rw [← add_field _ _ 1 (by omega)]; exact hcr 1 _ rfl
  · rw [← add_field _ _ 2 (by omega)]; exact hcr 2 _ rfl
  · rw [← add_field _ _ 3 (by omega)]; exact hcr 3 _ rfl
  · rw [← add_field _ _ 4 (by omega)]; exact hcr 4 _ rfl
  · rw [← add_field _ _ 5 (by omega)]; exact hcr 5 _ rfl
/-- Are there too many borders? -/
def manyP (n : Int) (t : Bool) (clock now : Int) : Prop := t = true ∧ 0 < n ∧ clock < now ∧ 2000 < (now - clock) / n
instance (n : Int) (t : Bool) (clock now : Int) : Decidable (manyP n t clock now) := by unfold manyP; infer_instance
theorem many_f (k n : Int) (t : Bool) (clock now : Int) (h0 : 0 ≤ clock) (h1 : now ≤ 1125899906842624) : marqueelaw20_many.f k n t clock now = some (decide (manyP n t clock now)) := by
  unfold marqueelaw20_many.f
  by_cases ht : t = true
  · rw [if_pos ht]
    by_cases hn : n > 0
    · rw [if_pos hn]
      by_cases hl : now > clock
      · have hd : 0 ≤ now - clock := by omega
        have hq : 0 ≤ (now - clock) / n := Int.ediv_nonneg hd (by omega)
        have hq2 : (now - clock) / n ≤ now - clock := Int.ediv_le_self _ hd
        have e1 : wrap64 (now - clock) = now - clock := w64 ⟨by omega, by omega⟩
        rw [if_pos hl, if_neg (by omega), e1, Int.tdiv_eq_ediv_of_nonneg hd, w64 ⟨by omega, by omega⟩]
        by_cases hz : (now - clock) / n > 2000
        · rw [decide_eq_true hz, decide_eq_true (show manyP n t clock now from ⟨ht, by omega, by omega, by omega⟩)]
        · rw [decide_eq_false hz, decide_eq_false (show ¬ manyP n t clock now from fun h => by have := h.2.2.2; omega)]
      · rw [if_neg hl, decide_eq_false (show ¬ manyP n t clock now from fun h => by have := h.2.2.1; omega)]
    · rw [if_neg hn, decide_eq_false (show ¬ manyP n t clock now from fun h => by have := h.2.1; omega)]
  · rw [if_neg ht, decide_eq_false (show ¬ manyP n t clock now from fun h => ht h.1)]
theorem many_any (k n : Int) (t : Bool) (clock now : Int) (w : World) (h0 : 0 ≤ clock) (h1 : now ≤ 1125899906842624) : Calls Try.prog 9 #[.agg #[.int .i64 k, .int .i64 n, .bool t], .int .i64 clock, .int .i64 now] w fun e w' => e = .returned (.bool (decide (manyP n t clock now))) ∧ Below w.heap.size w w' :=
  marqueelaw20_many.calls k n t clock now _ w (many_f k n t clock now h0 h1)
/-- Few borders, then. -/
theorem few {s : St} {now : Int} (h : Inv s) (hm : ¬ manyP s.n s.t s.clock now) (hc : s.clock ≤ now) : s.t = true → now + 1 - s.border ≤ 4002 * s.n := fun ht => by
  have hn := h.g.n1 ht
  have hb := h.tb ht
  by_cases hl : s.clock < now
  · have h2 : ¬ 2000 < (now - s.clock) / s.n := fun hh => hm ⟨ht, by omega, hl, hh⟩
    have := div_bounds (a := now - s.clock) hn
    have h3 : (now - s.clock) / s.n * s.n ≤ 2000 * s.n := Int.mul_le_mul_of_nonneg_right (by omega) (by omega)
    omega
  · omega
theorem feed_law {g : Nat} {s : St} {ri ro : RowsL} (now ev : Int) {A A' A2 : Option Addr} {c c' c2 : Nat} {xs ys all : RowsL} {W1 : World} {j : Nat} {L' : List Asr} (h : Apart w (Rt g s ri ro :: L)) (hj : pick j L = Old W1 :: L') (hW : Below w.heap.size w W) (hf : Fits s ri ro now xs ys all)
    (hx : Kd.F kR W (fun k => k < W1.heap.size) A xs.length xs) (hxc : xs.length ≤ c) (hy : Kd.F kR W (fun k => k < W1.heap.size) A' ys.length ys) (hyc : ys.length ≤ c') (ha : Kd.F kR W (fun k => k < W1.heap.size) A2 all.length all) (hac : all.length ≤ c2) :
    Calls Try.prog 10 #[.pointer (some ⟨g, 0, none⟩), .int .i64 now, .int .i64 ev, .agg #[.slice A xs.length c, .slice A' ys.length c'], .slice A2 all.length c2] W (fun e w' => ∃ A3 c3, e = .returned (.slice A3 (feed s ri ro now ev xs ys all).2.2.2.length c3) ∧ Apart w' (Rt g (feed s ri ro now ev xs ys all).1 (feed s ri ro now ev xs ys all).2.1 (feed s ri ro now ev xs ys all).2.2.1 :: Dl (.slice A3 (feed s ri ro now ev xs ys all).2.2.2.length c3) (feed s ri ro now ev xs ys all).2.2.2 :: L)) := by
  obtain ⟨F, hR, _, hl⟩ := Sep.out (h.onto hW)
  have hp := hl.pick j
  rw [hj] at hp
  obtain ⟨FO, hO, hd, _⟩ := Sep.out hp
  exact feed_core now ev hR (hl.mono (fun k hk => .inr hk)) hf hx hxc hy hyc ha hac (fun k hk hF => hd k ((hO.1 k).2 hk) (.inr hF)) rfl
theorem adv_law {g : Nat} {s : St} {ri ro : RowsL} (now : Int) {A2 : Option Addr} {c2 : Nat} {all : RowsL} {W1 : World} {j : Nat} {L' : List Asr} (h : Apart w (Rt g s ri ro :: L)) (hj : pick j L = Old W1 :: L') (hW : Below w.heap.size w W) (hG : Good s) (hi : Sm ri) (ho : Sm ro)
    (ha : Kd.F kR W (fun k => k < W1.heap.size) A2 all.length all) (hac : all.length ≤ c2) (hs : Sm all) (hmany : s.t = true → mn now late + 1 - s.border ≤ 4002 * s.n) :
    Calls Try.prog 11 #[.pointer (some ⟨g, 0, none⟩), .int .i64 now, .slice A2 all.length c2] W (fun e w' => ∃ A3 c3, e = .returned (.slice A3 (adv s ri ro now all).2.2.2.length c3) ∧ Apart w' (Rt g (adv s ri ro now all).1 (adv s ri ro now all).2.1 (adv s ri ro now all).2.2.1 :: Dl (.slice A3 (adv s ri ro now all).2.2.2.length c3) (adv s ri ro now all).2.2.2 :: L)) := by
  obtain ⟨F, hR, _, hl⟩ := Sep.out (h.onto hW)
  have hp := hl.pick j
  rw [hj] at hp
  obtain ⟨FO, hO, hd, _⟩ := Sep.out hp
  exact adv_core now hR (hl.mono (fun k hk => .inr hk)) hG hi ho ha hac hs (fun k hk hF => hd k ((hO.1 k).2 hk) (.inr hF)) hmany rfl
end Go.Proofs.Yteklabhmmfklbaa
