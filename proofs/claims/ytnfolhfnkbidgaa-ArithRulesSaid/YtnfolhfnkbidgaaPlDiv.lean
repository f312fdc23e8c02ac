import Derived.Test.YtnfolhfnkbidgaaPlDig
namespace Go.Proofs.Ytnfolhfnkbidgaa
open Go.RowKit Print Go.Proofs.YtnfolhfnkbidgaaW.PrintWords Go.Proofs.YtnfolhfnkbidgaaW.PrintMore
theorem dig_test {Y y1 y0 U u q r : Int} (d : Dig Y y1 y0 U u q r) (hr : r < 4294967296) (hq : q < 4294967296) :
    decide (IntKind.u64.wrap (q * y0) > IntKind.u64.wrap (IntKind.u64.wrap (4294967296 * r) + u)) = decide ((U * 4294967296 + u) / Y < q) := by
  have hq0 : 0 ≤ q := Int.le_trans d.Q_nonneg d.hQ
  have a : 0 ≤ q * y0 := Int.mul_nonneg hq0 d.h0
  have b : q * y0 ≤ 4294967295 * y0 := Int.mul_le_mul_of_nonneg_right (by omega) d.h0
  have := d.h0'
  have := d.hr
  have := d.hu
  have := d.hu'
  rw [uin a (by omega), uin (x := 4294967296 * r) (by omega) (by omega), uin (x := 4294967296 * r + u) (by omega) (by omega)]
  have t := d.test
  by_cases c : (U * 4294967296 + u) / Y < q
  · rw [decide_eq_true c, decide_eq_true]
    have : ¬ q * y0 ≤ 4294967296 * r + u := fun h => by have := t.2 h; omega
    omega
  · rw [decide_eq_false c, decide_eq_false]
    have := t.1 (by omega)
    omega
section
variable {Y y1 y0 U u s u0 : Int} {R : Int × Int}
theorem l0_ev (n : Nat) : ∀ (q r : Int), Dig Y y1 y0 U u q r → r < 4294967296 → 4294967296 ≤ r + 2147483648 * n → Ev (fun k => bits_Div64.j2 k Y s y1 y0 U u u0 ((U * 4294967296 + u) / Y)) R → Ev (fun k => bits_Div64.l0 k Y s y1 y0 U u u0 q r) R := by
  induction n with
  | zero => intro q r d hr hn; omega
  | succ n ih =>
    intro q r d hr hn he
    have hQ := d.hQ
    have hQ0 := d.Q_nonneg
    have hQB := d.Q_lt
    have hqB := d.hqB
    have hr0 := d.hr
    have h1 := d.h1
    have h1' := d.h1'
    have step : ∀ k, bits_Div64.l0 (k + 1) Y s y1 y0 U u u0 q r = bits_Div64.j1 k Y s y1 y0 U u u0 q r (decide ((U * 4294967296 + u) / Y < q)) := fun k => by
      rw [bits_Div64.l0_eq]
      by_cases c : q ≥ 4294967296
      · rw [if_pos c, decide_eq_true (show (U * 4294967296 + u) / Y < q by omega)]
      · rw [if_neg c, dig_test d hr (by omega)]
    refine Ev.next ?_ step
    by_cases c : (U * 4294967296 + u) / Y < q
    · rw [decide_eq_true c]
      have d' := d.down c
      have e1 := Aside0.mk (uin (x := r + y1) (by omega) (by omega))
      have e2 := Aside0.mk (uin (x := q - 1) (by omega) (by omega))
      by_cases hB : r + y1 ≥ 4294967296
      · have hq := d'.done hB (by omega)
        refine Ev.next he (fun k => ?_)
        rw [bits_Div64.j1_eq, if_pos rfl, e1.out, if_pos hB, e2.out, ← hq]
      · refine Ev.next (ih _ _ d' (by omega) (by omega) he) (fun k => ?_)
        rw [bits_Div64.j1_eq, if_pos rfl, e1.out, if_neg hB, e2.out]
    · have hq : q = (U * 4294967296 + u) / Y := by omega
      rw [decide_eq_false c]
      refine Ev.next he (fun k => ?_)
      rw [bits_Div64.j1_eq, if_neg (by decide), ← hq]
theorem l1_ev (q1 un21 : Int) (hs : 0 ≤ s) (n : Nat) : ∀ (q r : Int), Dig Y y1 y0 U u q r → r < 4294967296 → 4294967296 ≤ r + 2147483648 * n →
    Ev (fun k => bits_Div64.l1 k Y s y1 y0 u q1 r un21 q) (IntKind.u64.wrap (IntKind.u64.wrap (q1 * 4294967296) + (U * 4294967296 + u) / Y), shr .u64 (IntKind.u64.wrap (IntKind.u64.wrap (IntKind.u64.wrap (un21 * 4294967296) + u) - IntKind.u64.wrap ((U * 4294967296 + u) / Y * Y))) s) := by
  induction n with
  | zero => intro q r d hr hn; omega
  | succ n ih =>
    intro q r d hr hn
    have hQ := d.hQ
    have hQ0 := d.Q_nonneg
    have hQB := d.Q_lt
    have hqB := d.hqB
    have hr0 := d.hr
    have h1 := d.h1
    have h1' := d.h1'
    have step : ∀ k, bits_Div64.l1 (k + 1) Y s y1 y0 u q1 r un21 q = bits_Div64.j4 k Y s y1 y0 u q1 r un21 q (decide ((U * 4294967296 + u) / Y < q)) := fun k => by
      rw [bits_Div64.l1_eq]
      by_cases c : q ≥ 4294967296
      · rw [if_pos c, decide_eq_true (show (U * 4294967296 + u) / Y < q by omega)]
      · rw [if_neg c, dig_test d hr (by omega)]
    refine Ev.next ?_ step
    by_cases c : (U * 4294967296 + u) / Y < q
    · rw [decide_eq_true c]
      have d' := d.down c
      have e1 := Aside0.mk (uin (x := r + y1) (by omega) (by omega))
      have e2 := Aside0.mk (uin (x := q - 1) (by omega) (by omega))
      by_cases hB : r + y1 ≥ 4294967296
      · have hq := d'.done hB (by omega)
        refine Ev.stops (fun k => ?_)
        rw [bits_Div64.j4_eq, if_pos rfl, e1.out, if_pos hB, if_pos hs, e2.out, ← hq]
      · refine Ev.next (ih _ _ d' (by omega) (by omega)) (fun k => ?_)
        rw [bits_Div64.j4_eq, if_pos rfl, e1.out, if_neg hB, e2.out]
    · have hq : q = (U * 4294967296 + u) / Y := by omega
      rw [decide_eq_false c]
      refine Ev.stops (fun k => ?_)
      rw [bits_Div64.j4_eq, if_neg (by decide), if_pos hs, ← hq]
end
/-- The whole division, of a divisor whose highest bit is set: two digits. -/
theorem div_two {Y y1 y0 U u1 u0 s : Int} (hy : Y = y1 * 4294967296 + y0) (h1 : 2147483648 ≤ y1) (h1' : y1 < 4294967296) (h0 : 0 ≤ y0) (h0' : y0 < 4294967296) (hu : 0 ≤ u1) (hu' : u1 < 4294967296) (hv : 0 ≤ u0) (hv' : u0 < 4294967296) (hU : 0 ≤ U) (hUY : U < Y) (hs : 0 ≤ s) :
    Ev (fun k => bits_Div64.l0 k Y s y1 y0 U u1 u0 (U / y1) (U - U / y1 * y1)) ((U * 18446744073709551616 + u1 * 4294967296 + u0) / Y, shr .u64 ((U * 18446744073709551616 + u1 * 4294967296 + u0) % Y) s) := by
  have d := Dig.start hy h1 h1' h0 h0' hu hu' hU hUY
  have hYp := d.Y_pos
  have hm := Int.emod_lt_of_pos U (show 0 < y1 by omega)
  have hm0 := Int.emod_nonneg U (show y1 ≠ 0 by omega)
  have hme : U - U / y1 * y1 = U % y1 := by have := Int.emod_add_ediv_mul U y1; omega
  refine l0_ev 2 _ _ d (by omega) (by omega) ?_
  have hQ0 := d.Q_nonneg
  have hQB := d.Q_lt
  obtain ⟨Q1, hQ1⟩ : ∃ Q1, (U * 4294967296 + u1) / Y = Q1 := ⟨_, rfl⟩
  obtain ⟨V, hV⟩ : ∃ V, (U * 4294967296 + u1) % Y = V := ⟨_, rfl⟩
  have hdiv : V + Y * Q1 = U * 4294967296 + u1 := by rw [← hQ1, ← hV]; exact Int.emod_add_mul_ediv _ _
  have hV0 : 0 ≤ V := by rw [← hV]; exact Int.emod_nonneg _ (by omega)
  have hVY : V < Y := by rw [← hV]; exact Int.emod_lt_of_pos _ hYp
  rw [hQ1] at hQ0 hQB ⊢
  clear d hm hm0 hme hQ1 hV
  have hYU : Y ≤ 18446744073709551615 := by omega
  have hQY : Q1 * Y = Y * Q1 := Int.mul_comm _ _
  -- what is left behind the first digit
  have eV : IntKind.u64.wrap (IntKind.u64.wrap (IntKind.u64.wrap (U * 4294967296) + u1) - IntKind.u64.wrap (Q1 * Y)) = V := by
    rw [uw, uw, uw, uw, hQY]
    generalize Y * Q1 = P at hdiv
    omega
  have d2 := Dig.start hy h1 h1' h0 h0' hv hv' hV0 hVY
  have hm := Int.emod_lt_of_pos V (show 0 < y1 by omega)
  have hm0 := Int.emod_nonneg V (show y1 ≠ 0 by omega)
  have hme : V - V / y1 * y1 = V % y1 := by have := Int.emod_add_ediv_mul V y1; omega
  have hVd0 : 0 ≤ V / y1 := Int.ediv_nonneg hV0 (by omega)
  have hVd : V / y1 ≤ 4294967297 := d2.hqB
  have et : IntKind.u64.wrap (Int.tdiv V y1) = V / y1 := by
    rw [Int.tdiv_eq_ediv_of_nonneg hV0, uin hVd0 (by omega)]
  have hprod : 0 ≤ V / y1 * y1 := Int.mul_nonneg hVd0 (by omega)
  have em : IntKind.u64.wrap (V - IntKind.u64.wrap (V / y1 * y1)) = V - V / y1 * y1 := by
    rw [uin (x := V / y1 * y1) (by omega) (by omega), uin (by omega) (by omega)]
  have fin := l1_ev (s := s) Q1 V hs 2 _ _ d2 (by omega) (by omega)
  have hQ20 := d2.Q_nonneg
  have hQ2B := d2.Q_lt
  obtain ⟨Q0, hQ0e⟩ : ∃ Q0, (V * 4294967296 + u0) / Y = Q0 := ⟨_, rfl⟩
  obtain ⟨Z, hZ⟩ : ∃ Z, (V * 4294967296 + u0) % Y = Z := ⟨_, rfl⟩
  have hdiv2 : Z + Y * Q0 = V * 4294967296 + u0 := by rw [← hQ0e, ← hZ]; exact Int.emod_add_mul_ediv _ _
  have hZ0 : 0 ≤ Z := by rw [← hZ]; exact Int.emod_nonneg _ (by omega)
  have hZY : Z < Y := by rw [← hZ]; exact Int.emod_lt_of_pos _ hYp
  rw [hQ0e] at hQ20 hQ2B fin
  have hQYc : Q0 * Y = Y * Q0 := Int.mul_comm _ _
  have eZ : IntKind.u64.wrap (IntKind.u64.wrap (IntKind.u64.wrap (V * 4294967296) + u0) - IntKind.u64.wrap (Q0 * Y)) = Z := by
    rw [uw, uw, uw, uw, hQYc]
    generalize Y * Q0 = P at hdiv2
    omega
  have eq : IntKind.u64.wrap (IntKind.u64.wrap (Q1 * 4294967296) + Q0) = Q1 * 4294967296 + Q0 := by
    rw [uin (x := Q1 * 4294967296) (by omega) (by omega), uin (by omega) (by omega)]
  rw [eZ, eq] at fin
  have whole : U * 18446744073709551616 + u1 * 4294967296 + u0 = Z + Y * (Q1 * 4294967296 + Q0) := by
    rw [Int.mul_add, ← Int.mul_assoc]
    omega
  have eq1 : (U * 18446744073709551616 + u1 * 4294967296 + u0) / Y = Q1 * 4294967296 + Q0 := by
    rw [whole, Int.add_mul_ediv_left _ _ (show Y ≠ 0 by omega), Int.ediv_eq_zero_of_lt hZ0 hZY, Int.zero_add]
  have eq2 : (U * 18446744073709551616 + u1 * 4294967296 + u0) % Y = Z := by
    rw [whole, Int.add_mul_emod_self_left, Int.emod_eq_of_lt hZ0 hZY]
  rw [eq1, eq2]
  refine Ev.next fin (fun k => ?_)
  rw [bits_Div64.j2_eq, if_neg (by omega), eV, et, em]
end Go.Proofs.Ytnfolhfnkbidgaa
