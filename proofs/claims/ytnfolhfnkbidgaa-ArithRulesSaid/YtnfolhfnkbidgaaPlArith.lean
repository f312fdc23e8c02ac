import Derived.Test.YtnfolhfnkbidgaaPx4
import Derived.Test.YtnfolhfnkbidgaaPx5
import Derived.Test.YtnfolhfnkbidgaaPlDiv64
namespace Go.Proofs.Ytnfolhfnkbidgaa
open Go.RowKit Print Go.Proofs.YtnfolhfnkbidgaaW.PrintWords Go.Proofs.YtnfolhfnkbidgaaW.PrintMore
theorem arith_asked.l0_eq (k : Nat) (x4 : Bool) (x7 : List (S23)) (x8 : Int) (x9 : Int) : arith_asked.l0 (k + 1) x4 x7 x8 x9 = if x9 < x8 then (if 0 ≤ x9 then (if x9 < (x7.length : Int) then ((arith_number.f ((rd_T23 x7 x9).f0) ((rd_T23 x7 x9).f1) ((rd_T23 x7 x9).f2)).bind fun t105 => (if t105 = true then (if x4 = true then (arith_asked.l0 k true x7 x8 (wrap64 (x9 + 1))) else (arith_asked.l0 k (((rd_T23 x7 x9).f0) == 0) x7 x8 (wrap64 (x9 + 1)))) else (if ((rd_T23 x7 x9).f0) = 0 then (if x4 = true then (arith_asked.l0 k true x7 x8 (wrap64 (x9 + 1))) else (arith_asked.l0 k (((rd_T23 x7 x9).f0) == 0) x7 x8 (wrap64 (x9 + 1)))) else (some (false, 22))))) else (none)) else (none)) else (some (x4, 0)) := by
  rw [arith_asked.l0]
theorem arith_Mul.j0_eq (k : Nat) (x7 : Int) (x22 : Bool) (x120000 : Int) (x120001 : Int) (x120002 : ByteArray) (x121000 : Int) (x121001 : Int) (x121002 : ByteArray) : arith_Mul.j0 (k + 1) x7 x22 x120000 x120001 x120002 x121000 x121001 x121002 = if x22 = true then (some (0, 0, (⟨#[]⟩ : ByteArray), x7)) else (if x120000 = 3 then (arith_Mul.j1 k 1 (x121000 == 3) x120000 x120001 x120002 x121000 x121001 x121002) else (arith_Mul.j1 k 1 false x120000 x120001 x120002 x121000 x121001 x121002)) := by
  rw [arith_Mul.j0]
theorem arith_Mul.j1_eq (k : Nat) (x8 : Int) (x32 : Bool) (x120000 : Int) (x120001 : Int) (x120002 : ByteArray) (x121000 : Int) (x121001 : Int) (x121002 : ByteArray) : arith_Mul.j1 (k + 1) x8 x32 x120000 x120001 x120002 x121000 x121001 x121002 = if x32 = true then ((arith_muldiv.f k x120001 x121001 10000).bind fun bt127 => ((arith_of.f (mx x120000 x121000) bt127.1 bt127.2).bind fun bt129 => (some (bt129.1, bt129.2.1, bt129.2.2.1, bt129.2.2.2)))) else ((arith_muldiv.f k x120001 x121001 x8).bind fun bt133 => ((arith_of.f (mx x120000 x121000) bt133.1 bt133.2).bind fun bt135 => (some (bt135.1, bt135.2.1, bt135.2.2.1, bt135.2.2.2)))) := by
  rw [arith_Mul.j1]
theorem arith_Div.j0_eq (k : Nat) (x7 : Int) (x24 : Bool) (x156000 : Int) (x156001 : Int) (x156002 : ByteArray) (x157000 : Int) (x157001 : Int) (x157002 : ByteArray) : arith_Div.j0 (k + 1) x7 x24 x156000 x156001 x156002 x157000 x157001 x157002 = if x24 = true then (some (0, 0, (⟨#[]⟩ : ByteArray), x7)) else (if x156000 = 2 then (arith_Div.j1 k (x157000 == 2) x156000 x156001 x156002 x157000 x157001 x157002) else (arith_Div.j1 k false x156000 x156001 x156002 x157000 x157001 x157002)) := by
  rw [arith_Div.j0]
theorem arith_Div.j1_eq (k : Nat) (x34 : Bool) (x156000 : Int) (x156001 : Int) (x156002 : ByteArray) (x157000 : Int) (x157001 : Int) (x157002 : ByteArray) : arith_Div.j1 (k + 1) x34 x156000 x156001 x156002 x157000 x157001 x157002 = if x34 = true then ((arith_muldiv.f k x156001 1 x157001).bind fun bt160 => ((arith_of.f 2 bt160.1 bt160.2).bind fun bt162 => (some (bt162.1, bt162.2.1, bt162.2.2.1, bt162.2.2.2)))) else ((arith_decs.f k x156000 x156001 x156002 x157000 x157001 x157002).bind fun bt166 => (if bt166.2.2 = true then ((arith_muldiv.f k bt166.1 10000 bt166.2.1).bind fun bt169 => ((arith_of.f 3 bt169.1 bt169.2).bind fun bt171 => (some (bt171.1, bt171.2.1, bt171.2.2.1, bt171.2.2.2)))) else (some (0, 0, (⟨#[]⟩ : ByteArray), 20)))) := by
  rw [arith_Div.j1]
theorem arith_two_33.j0_eq (k : Nat) (x9 : Int) (x27 : Bool) (x176000 : Int) (x176001 : Int) (x176002 : ByteArray) (x177000 : Int) (x177001 : Int) (x177002 : ByteArray) : arith_two_33.j0 (k + 1) x9 x27 x176000 x176001 x176002 x177000 x177001 x177002 = if x27 = true then (some (0, 0, (⟨#[]⟩ : ByteArray), x9)) else (if x176000 = 2 then (arith_two_33.j1 k (x177000 == 2) x176000 x176001 x176002 x177000 x177001 x177002) else (arith_two_33.j1 k false x176000 x176001 x176002 x177000 x177001 x177002)) := by
  rw [arith_two_33.j0]
theorem arith_two_33.j1_eq (k : Nat) (x37 : Bool) (x176000 : Int) (x176001 : Int) (x176002 : ByteArray) (x177000 : Int) (x177001 : Int) (x177002 : ByteArray) : arith_two_33.j1 (k + 1) x37 x176000 x176001 x176002 x177000 x177001 x177002 = if x37 = true then ((arith_add.f x176001 x177001).bind fun bt183 => ((arith_of.f 2 bt183.1 bt183.2).bind fun bt185 => (some (bt185.1, bt185.2.1, bt185.2.2.1, bt185.2.2.2)))) else ((arith_decs.f k x176000 x176001 x176002 x177000 x177001 x177002).bind fun bt189 => (if bt189.2.2 = true then ((arith_add.f bt189.1 bt189.2.1).bind fun bt192 => ((arith_of.f 3 bt192.1 bt192.2).bind fun bt194 => (some (bt194.1, bt194.2.1, bt194.2.2.1, bt194.2.2.2)))) else (some (0, 0, (⟨#[]⟩ : ByteArray), 20)))) := by
  rw [arith_two_33.j1]
theorem arith_two_34.j0_eq (k : Nat) (x9 : Int) (x27 : Bool) (x206000 : Int) (x206001 : Int) (x206002 : ByteArray) (x207000 : Int) (x207001 : Int) (x207002 : ByteArray) : arith_two_34.j0 (k + 1) x9 x27 x206000 x206001 x206002 x207000 x207001 x207002 = if x27 = true then (some (0, 0, (⟨#[]⟩ : ByteArray), x9)) else (if x206000 = 2 then (arith_two_34.j1 k (x207000 == 2) x206000 x206001 x206002 x207000 x207001 x207002) else (arith_two_34.j1 k false x206000 x206001 x206002 x207000 x207001 x207002)) := by
  rw [arith_two_34.j0]
theorem arith_two_34.j1_eq (k : Nat) (x37 : Bool) (x206000 : Int) (x206001 : Int) (x206002 : ByteArray) (x207000 : Int) (x207001 : Int) (x207002 : ByteArray) : arith_two_34.j1 (k + 1) x37 x206000 x206001 x206002 x207000 x207001 x207002 = if x37 = true then ((arith_sub.f x206001 x207001).bind fun bt213 => ((arith_of.f 2 bt213.1 bt213.2).bind fun bt215 => (some (bt215.1, bt215.2.1, bt215.2.2.1, bt215.2.2.2)))) else ((arith_decs.f k x206000 x206001 x206002 x207000 x207001 x207002).bind fun bt219 => (if bt219.2.2 = true then ((arith_sub.f bt219.1 bt219.2.1).bind fun bt222 => ((arith_of.f 3 bt222.1 bt222.2).bind fun bt224 => (some (bt224.1, bt224.2.1, bt224.2.2.1, bt224.2.2.2)))) else (some (0, 0, (⟨#[]⟩ : ByteArray), 20)))) := by
  rw [arith_two_34.j1]
def i64 (x : Int) : Prop := -9223372036854775808 ≤ x ∧ x ≤ 9223372036854775807
theorem w64 {x : Int} (h : i64 x) : wrap64 x = x := by unfold wrap64; unfold i64 at h; omega
theorem uw_neg {x : Int} (h : x < 0) (h2 : -18446744073709551616 ≤ x) : IntKind.u64.wrap x = x + 18446744073709551616 := by rw [uw]; omega
theorem size_eq (a : Int) (h : i64 a) : arith_size.f a = some (a.natAbs : Int) := by
  unfold arith_size.f
  unfold i64 at h
  by_cases c : a < 0
  · rw [if_pos c]
    congr 1
    rw [uw, uw]
    omega
  · rw [if_neg c]
    congr 1
    rw [uw]
    omega
theorem signed_eq (u : Int) (b : Bool) : arith_signed.f u b = some (if b = true then (wrap64 (IntKind.u64.wrap (-u)), decide (u ≤ 9223372036854775808)) else (wrap64 u, decide (u < 9223372036854775808))) := by
  unfold arith_signed.f
  cases b
  · rw [if_neg (by decide), if_neg (by decide)]
  · rw [if_pos rfl, if_pos rfl]
/-- What muldiv answers: a * b / d, towards zero, if it is an int. -/
def md (a b d : Int) : Int × Bool :=
  if (d.natAbs : Nat) ≤ a.natAbs * b.natAbs / 18446744073709551616 then (0, false)
  else if a.natAbs * b.natAbs / d.natAbs = 0 then (0, true)
  else if (((decide (a < 0)) != (decide (b < 0))) != (decide (d < 0))) = true then (wrap64 (IntKind.u64.wrap (-((a.natAbs * b.natAbs / d.natAbs : Nat) : Int))), decide (((a.natAbs * b.natAbs / d.natAbs : Nat) : Int) ≤ 9223372036854775808))
  else (wrap64 ((a.natAbs * b.natAbs / d.natAbs : Nat) : Int), decide (((a.natAbs * b.natAbs / d.natAbs : Nat) : Int) < 9223372036854775808))
theorem muldiv_ev (a b d : Int) (ha : i64 a) (hb : i64 b) (hd : i64 d) : Ev (fun k => arith_muldiv.f k a b d) (md a b d) := by
  have hA : a.natAbs ≤ 9223372036854775808 := by unfold i64 at ha; omega
  have hB : b.natAbs ≤ 9223372036854775808 := by unfold i64 at hb; omega
  have hD : d.natAbs ≤ 9223372036854775808 := by unfold i64 at hd; omega
  have hm : bits_Mul64.f (a.natAbs : Int) (b.natAbs : Int) = some (((a.natAbs * b.natAbs / 18446744073709551616 : Nat) : Int), ((a.natAbs * b.natAbs % 18446744073709551616 : Nat) : Int)) := by
    unfold bits_Mul64.f
    rw [if_pos ⟨by omega, by omega, by omega, by omega⟩, ← Int.natCast_mul]
    generalize a.natAbs * b.natAbs = P
    congr 2
  have hP : a.natAbs * b.natAbs / 18446744073709551616 * 18446744073709551616 + a.natAbs * b.natAbs % 18446744073709551616 = a.natAbs * b.natAbs := Nat.div_add_mod' _ _
  have step : ∀ k, arith_muldiv.f k a b d = if (d.natAbs : Nat) ≤ a.natAbs * b.natAbs / 18446744073709551616 then some (0, false) else (bits_Div64.f k ((a.natAbs * b.natAbs / 18446744073709551616 : Nat) : Int) ((a.natAbs * b.natAbs % 18446744073709551616 : Nat) : Int) (d.natAbs : Int)).bind fun b112 => if b112.1 = 0 then (arith_signed.f b112.1 false).bind fun b114 => some (b114.1, b114.2) else (arith_signed.f b112.1 (((decide (a < 0)) != (decide (b < 0))) != (decide (d < 0)))).bind fun b116 => some (b116.1, b116.2) := fun k => by
    unfold arith_muldiv.f
    rw [size_eq a ha, Option.bind_some, size_eq b hb, Option.bind_some, hm, Option.bind_some, size_eq d hd, Option.bind_some]
    by_cases c : (d.natAbs : Nat) ≤ a.natAbs * b.natAbs / 18446744073709551616
    · rw [if_pos c, if_pos (by show ((a.natAbs * b.natAbs / 18446744073709551616 : Nat) : Int) ≥ (d.natAbs : Int); omega)]
    · rw [if_neg c, if_neg (by show ¬ ((a.natAbs * b.natAbs / 18446744073709551616 : Nat) : Int) ≥ (d.natAbs : Int); omega)]
  unfold md
  refine Ev.congr step ?_
  by_cases c : (d.natAbs : Nat) ≤ a.natAbs * b.natAbs / 18446744073709551616
  · rw [if_pos c]
    exact Ev.congr (fun k => by rw [if_pos c]) (Ev.now _)
  · rw [if_neg c]
    have hv := div64_ev (a.natAbs * b.natAbs / 18446744073709551616) (a.natAbs * b.natAbs % 18446744073709551616) d.natAbs (by omega) (Nat.mod_lt _ (by omega)) (by omega)
    rw [hP] at hv
    refine Ev.congr (fun k => by rw [if_neg c]) (Ev.bind hv ?_)
    by_cases c2 : a.natAbs * b.natAbs / d.natAbs = 0
    · rw [if_pos c2]
      refine Ev.congr (fun k => ?_) (Ev.now _)
      show (if ((a.natAbs * b.natAbs / d.natAbs : Nat) : Int) = 0 then _ else _) = _
      rw [if_pos (by omega), signed_eq, Option.bind_some, if_neg (by decide), c2]
      simp [wrap64]
    · rw [if_neg c2]
      refine Ev.congr (fun k => ?_) (Ev.now _)
      show (if ((a.natAbs * b.natAbs / d.natAbs : Nat) : Int) = 0 then _ else _) = _
      rw [if_neg (by omega), signed_eq, Option.bind_some]
/-- What is asked of two kinds. -/
def num (k : Int) : Bool := k == 2 || k == 3
def ask (ka kb : Int) : Bool × Int := if num ka = false ∧ ka ≠ 0 ∨ num kb = false ∧ kb ≠ 0 then (false, 22) else (ka == 0 || kb == 0, 0)
theorem asked_step (l : List S23) (i : Nat) (hi : i < l.length) (hl : l.length ≤ 100) (b : Bool) (k : Nat) :
    arith_asked.l0 (k + 1) b l (l.length : Int) (i : Int) = if num (rd_T23 l i).f0 = false ∧ (rd_T23 l i).f0 ≠ 0 then some (false, 22) else arith_asked.l0 k (b || (rd_T23 l i).f0 == 0) l (l.length : Int) ((i + 1 : Nat) : Int) := by
  have e1 : wrap64 ((i : Int) + 1) = ((i + 1 : Nat) : Int) := by rw [w64 ⟨by omega, by omega⟩]; omega
  rw [arith_asked.l0_eq, if_pos (by omega), if_pos (by omega), if_pos (by omega), e1]
  unfold arith_number.f num
  generalize (rd_T23 l i).f0 = q
  by_cases c2 : q = 2
  · subst c2
    cases b <;> rfl
  · by_cases c3 : q = 3
    · subst c3
      cases b <;> rfl
    · by_cases c0 : q = 0
      · subst c0
        cases b <;> rfl
      · have h2 : (q == 2) = false := by simpa using c2
        have h3 : (q == 3) = false := by simpa using c3
        rw [if_neg c2, Option.bind_some, h3, if_neg (by decide), if_neg c0, if_pos ⟨by rw [h2]; rfl, c0⟩]
theorem asked_end (l : List S23) (b : Bool) (k : Nat) : arith_asked.l0 (k + 1) b l (l.length : Int) (l.length : Int) = some (b, 0) := by
  rw [arith_asked.l0_eq, if_neg (by omega)]
theorem asked2_ev (x y : S23) : Ev (fun k => arith_asked.f k [x, y]) (ask x.f0 y.f0) := by
  have h0 := asked_step [x, y] 0 (by simp) (by simp)
  have h1 := asked_step [x, y] 1 (by simp) (by simp)
  have r0 : rd_T23 [x, y] ((0 : Nat) : Int) = x := rfl
  have r1 : rd_T23 [x, y] ((1 : Nat) : Int) = y := rfl
  rw [r0] at h0
  rw [r1] at h1
  unfold ask
  by_cases c0 : num x.f0 = false ∧ x.f0 ≠ 0
  · rw [if_pos (.inl c0)]
    exact Ev.stops (fun k => (h0 false k).trans (if_pos c0))
  · by_cases c1 : num y.f0 = false ∧ y.f0 ≠ 0
    · rw [if_pos (.inr c1)]
      exact Ev.next (Ev.stops (fun k => (h1 _ k).trans (if_pos c1))) (fun k => (h0 false k).trans (if_neg c0))
    · rw [if_neg (fun h => h.elim c0 c1)]
      exact Ev.next (Ev.next (Ev.stops (fun k => asked_end [x, y] _ k)) (fun k => (h1 _ k).trans (if_neg c1))) (fun k => (h0 false k).trans (if_neg c0))
theorem asked1_ev (x : S23) : Ev (fun k => arith_asked.f k [x]) (ask x.f0 x.f0) := by
  have h0 := asked_step [x] 0 (by simp) (by simp)
  have r0 : rd_T23 [x] ((0 : Nat) : Int) = x := rfl
  rw [r0] at h0
  unfold ask
  by_cases c0 : num x.f0 = false ∧ x.f0 ≠ 0
  · rw [if_pos (.inl c0)]
    exact Ev.stops (fun k => (h0 false k).trans (if_pos c0))
  · rw [if_neg (fun h => h.elim c0 c0), Bool.or_self]
    exact Ev.next (Ev.stops (fun k => asked_end [x] _ k)) (fun k => (h0 false k).trans (if_neg c0))
abbrev Val := Int × Int × ByteArray × Int
def E : ByteArray := ⟨#[]⟩
def ofV (kd : Int) (r : Int × Bool) : Val := if r.2 = true then (kd, r.1, E, 0) else (0, 0, E, 20)
theorem of_eq (kd : Int) (r : Int × Bool) : arith_of.f kd r.1 r.2 = some (ofV kd r) := by
  unfold arith_of.f ofV
  cases r.2
  · rw [if_neg (by decide), if_neg (by decide)]; rfl
  · rw [if_pos rfl, if_pos rfl]; rfl
theorem eta4 (v : Val) : (some (v.1, v.2.1, v.2.2.1, v.2.2.2) : Option Val) = some v := rfl
/-- A product. -/
def mulV (ka na kb nb : Int) : Val := if (ask ka kb).2 ≠ 0 ∨ (ask ka kb).1 = true then (0, 0, E, (ask ka kb).2) else ofV (mx ka kb) (md na nb (if ka = 3 ∧ kb = 3 then 10000 else 1))
theorem mul_ev (ka na : Int) (ta : ByteArray) (kb nb : Int) (tb : ByteArray) (ha : i64 na) (hb : i64 nb) : Ev (fun k => arith_Mul.f k ka na ta kb nb tb) (mulV ka na kb nb) := by
  have hq := asked2_ev ⟨ka, na, ta⟩ ⟨kb, nb, tb⟩
  unfold mulV
  refine Ev.congr (fun k => by unfold arith_Mul.f; rfl) (Ev.bind hq ?_)
  generalize ask ka kb = q
  obtain ⟨qb, qe⟩ := q
  show Ev (fun k => if qe = 0 then arith_Mul.j0 k qe qb ka na ta kb nb tb else arith_Mul.j0 k qe true ka na ta kb nb tb) (if qe ≠ 0 ∨ qb = true then (0, 0, E, qe) else _)
  by_cases c : qe ≠ 0 ∨ qb = true
  · rw [if_pos c]
    refine Ev.stops (fun k => ?_)
    by_cases c0 : qe = 0
    · have hb' : qb = true := c.elim (fun h => absurd c0 h) id
      rw [if_pos c0, arith_Mul.j0_eq, if_pos hb']; rfl
    · rw [if_neg c0, arith_Mul.j0_eq, if_pos rfl]; rfl
  · rw [if_neg c]
    have c0 : qe = 0 := by
      by_cases h : qe = 0
      · exact h
      · exact absurd (.inl h) c
    have c1 : qb = false := by
      cases h : qb
      · rfl
      · exact absurd (.inr h) c
    subst c0 c1
    have j1 : ∀ (d : Int) (k : Nat), d = (if ka = 3 ∧ kb = 3 then 10000 else 1) → arith_Mul.j1 (k + 1) 1 (decide (ka = 3 ∧ kb = 3)) ka na ta kb nb tb = (arith_muldiv.f k na nb d).bind fun r => some (ofV (mx ka kb) r) := fun d k hd => by
      rw [arith_Mul.j1_eq]
      by_cases c3 : ka = 3 ∧ kb = 3
      · rw [decide_eq_true c3, if_pos rfl, hd, if_pos c3]
        congr 1
        funext r
        rw [of_eq, Option.bind_some]
      · rw [decide_eq_false c3, if_neg (by decide), hd, if_neg c3]
        congr 1
        funext r
        rw [of_eq, Option.bind_some]
    have j0 : ∀ k, arith_Mul.j0 (k + 1) 0 false ka na ta kb nb tb = arith_Mul.j1 k 1 (decide (ka = 3 ∧ kb = 3)) ka na ta kb nb tb := fun k => by
      rw [arith_Mul.j0_eq, if_neg (by decide)]
      by_cases h3 : ka = 3
      · rw [if_pos h3]
        congr 1
        by_cases h4 : kb = 3
        · subst h3 h4; rfl
        · have : (kb == 3) = false := by simpa using h4
          rw [this, decide_eq_false (fun h => h4 h.2)]
      · rw [if_neg h3, decide_eq_false (fun h => h3 h.1)]
    refine Ev.congr (fun k => by rw [if_pos rfl]) (Ev.next (Ev.next ?_ (fun k => j1 _ k rfl)) j0)
    refine Ev.bind (muldiv_ev na nb _ ha hb ?_) (Ev.now _)
    split
    · exact ⟨by omega, by omega⟩
    · exact ⟨by omega, by omega⟩
/-- A value as ten-thousandths. -/
def decV (k n : Int) : Int × Bool := if k = 3 then (n, true) else md n 10000 1
theorem i64_small {x : Int} (h : -10000 ≤ x ∧ x ≤ 10000) : i64 x := ⟨by omega, by omega⟩
theorem dec_ev (k n : Int) (t : ByteArray) (hn : i64 n) : Ev (fun q => arith_dec.f q k n t) (decV k n) := by
  unfold arith_dec.f decV
  by_cases c : k = 3
  · rw [if_pos c]
    exact Ev.congr (fun q => by rw [if_pos c]) (Ev.now _)
  · rw [if_neg c]
    refine Ev.congr (fun q => by rw [if_neg c]) (Ev.bind (muldiv_ev n 10000 1 hn (i64_small (by omega)) (i64_small (by omega))) (Ev.now _))
def decsV (ka na kb nb : Int) : Int × Int × Bool := ((decV ka na).1, (decV kb nb).1, (decV ka na).2 && (decV kb nb).2)
theorem decs_ev (ka na : Int) (ta : ByteArray) (kb nb : Int) (tb : ByteArray) (ha : i64 na) (hb : i64 nb) : Ev (fun k => arith_decs.f k ka na ta kb nb tb) (decsV ka na kb nb) := by
  refine Ev.congr (fun k => by unfold arith_decs.f; rfl) (Ev.bind (dec_ev ka na ta ha) (Ev.bind (dec_ev kb nb tb hb) ?_))
  unfold decsV
  generalize decV ka na = p
  generalize decV kb nb = q
  refine Ev.congr (fun k => ?_) (Ev.now _)
  cases p.2
  · rw [if_neg (by decide), Bool.false_and]
  · rw [if_pos rfl, Bool.true_and]
theorem wrap_i64 (x : Int) : i64 (wrap64 x) := by unfold i64 wrap64; constructor <;> omega
theorem md_i64 (a b d : Int) : i64 (md a b d).1 := by
  unfold md
  repeat' split
  · exact ⟨by decide, by decide⟩
  · exact ⟨by decide, by decide⟩
  · exact wrap_i64 _
  · exact wrap_i64 _
theorem decV_i64 (k n : Int) (h : i64 n) : i64 (decV k n).1 := by
  unfold decV
  split
  · exact h
  · exact md_i64 _ _ _
/-- What is done to two numbers of one kind. -/
def twoV (f : Int → Int → Int × Bool) (ka na kb nb : Int) : Val :=
  if (ask ka kb).2 ≠ 0 ∨ (ask ka kb).1 = true then (0, 0, E, (ask ka kb).2)
  else if ka = 2 ∧ kb = 2 then ofV 2 (f na nb)
  else if (decsV ka na kb nb).2.2 = true then ofV 3 (f (decV ka na).1 (decV kb nb).1) else (0, 0, E, 20)
def addV (a b : Int) : Int × Bool := (wrap64 (a + b), (decide (a < 0)) != (decide (b < 0)) || ((decide (wrap64 (a + b) < 0)) == (decide (a < 0))))
def subV (a b : Int) : Int × Bool := (wrap64 (a - b), (decide (a < 0)) == (decide (b < 0)) || ((decide (wrap64 (a - b) < 0)) == (decide (a < 0))))
theorem add_eq (a b : Int) : arith_add.f a b = some (addV a b) := by
  unfold arith_add.f addV
  cases (decide (a < 0)) != (decide (b < 0))
  · rw [if_neg (by decide), Bool.false_or]
  · rw [if_pos rfl, Bool.true_or]
theorem sub_eq (a b : Int) : arith_sub.f a b = some (subV a b) := by
  unfold arith_sub.f subV
  cases (decide (a < 0)) == (decide (b < 0))
  · rw [if_neg (by decide), Bool.false_or]
  · rw [if_pos rfl, Bool.true_or]
theorem two33_ev (ka na : Int) (ta : ByteArray) (kb nb : Int) (tb : ByteArray) (ha : i64 na) (hb : i64 nb) : Ev (fun k => arith_two_33.f k ka na ta kb nb tb) (twoV addV ka na kb nb) := by
  have hq := asked2_ev ⟨ka, na, ta⟩ ⟨kb, nb, tb⟩
  unfold twoV
  refine Ev.congr (fun k => by unfold arith_two_33.f; rfl) (Ev.bind hq ?_)
  generalize ask ka kb = q
  obtain ⟨qb, qe⟩ := q
  show Ev (fun k => if qe = 0 then arith_two_33.j0 k qe qb ka na ta kb nb tb else arith_two_33.j0 k qe true ka na ta kb nb tb) (if qe ≠ 0 ∨ qb = true then (0, 0, E, qe) else _)
  by_cases c : qe ≠ 0 ∨ qb = true
  · rw [if_pos c]
    refine Ev.stops (fun k => ?_)
    by_cases c0 : qe = 0
    · have hb' : qb = true := c.elim (fun h => absurd c0 h) id
      rw [if_pos c0, arith_two_33.j0_eq, if_pos hb']; rfl
    · rw [if_neg c0, arith_two_33.j0_eq, if_pos rfl]; rfl
  · rw [if_neg c]
    have c0 : qe = 0 := by
      by_cases h : qe = 0
      · exact h
      · exact absurd (.inl h) c
    have c1 : qb = false := by
      cases h : qb
      · rfl
      · exact absurd (.inr h) c
    subst c0 c1
    have j0 : ∀ k, arith_two_33.j0 (k + 1) 0 false ka na ta kb nb tb = arith_two_33.j1 k (decide (ka = 2 ∧ kb = 2)) ka na ta kb nb tb := fun k => by
      rw [arith_two_33.j0_eq, if_neg (by decide)]
      by_cases h3 : ka = 2
      · rw [if_pos h3]
        congr 1
        by_cases h4 : kb = 2
        · subst h3 h4; rfl
        · have : (kb == 2) = false := by simpa using h4
          rw [this, decide_eq_false (fun h => h4 h.2)]
      · rw [if_neg h3, decide_eq_false (fun h => h3 h.1)]
    refine Ev.congr (fun k => by rw [if_pos rfl]) (Ev.next ?_ j0)
    by_cases c3 : ka = 2 ∧ kb = 2
    · rw [if_pos c3, decide_eq_true c3]
      refine Ev.stops (fun k => ?_)
      rw [arith_two_33.j1_eq, if_pos rfl, add_eq, Option.bind_some, of_eq, Option.bind_some]
    · rw [if_neg c3, decide_eq_false c3]
      refine Ev.step (fun k => by rw [arith_two_33.j1_eq, if_neg (by decide)]) (Ev.bind (decs_ev ka na ta kb nb tb ha hb) ?_)
      refine Ev.congr (fun k => ?_) (Ev.now _)
      by_cases c4 : (decsV ka na kb nb).2.2 = true
      · rw [if_pos c4, if_pos c4, add_eq, Option.bind_some, of_eq, Option.bind_some]; rfl
      · rw [if_neg c4, if_neg c4]; rfl
theorem two34_ev (ka na : Int) (ta : ByteArray) (kb nb : Int) (tb : ByteArray) (ha : i64 na) (hb : i64 nb) : Ev (fun k => arith_two_34.f k ka na ta kb nb tb) (twoV subV ka na kb nb) := by
  have hq := asked2_ev ⟨ka, na, ta⟩ ⟨kb, nb, tb⟩
  unfold twoV
  refine Ev.congr (fun k => by unfold arith_two_34.f; rfl) (Ev.bind hq ?_)
  generalize ask ka kb = q
  obtain ⟨qb, qe⟩ := q
  show Ev (fun k => if qe = 0 then arith_two_34.j0 k qe qb ka na ta kb nb tb else arith_two_34.j0 k qe true ka na ta kb nb tb) (if qe ≠ 0 ∨ qb = true then (0, 0, E, qe) else _)
  by_cases c : qe ≠ 0 ∨ qb = true
  · rw [if_pos c]
    refine Ev.stops (fun k => ?_)
    by_cases c0 : qe = 0
    · have hb' : qb = true := c.elim (fun h => absurd c0 h) id
      rw [if_pos c0, arith_two_34.j0_eq, if_pos hb']; rfl
    · rw [if_neg c0, arith_two_34.j0_eq, if_pos rfl]; rfl
  · rw [if_neg c]
    have c0 : qe = 0 := by
      by_cases h : qe = 0
      · exact h
      · exact absurd (.inl h) c
    have c1 : qb = false := by
      cases h : qb
      · rfl
      · exact absurd (.inr h) c
    subst c0 c1
    have j0 : ∀ k, arith_two_34.j0 (k + 1) 0 false ka na ta kb nb tb = arith_two_34.j1 k (decide (ka = 2 ∧ kb = 2)) ka na ta kb nb tb := fun k => by
      rw [arith_two_34.j0_eq, if_neg (by decide)]
      by_cases h3 : ka = 2
      · rw [if_pos h3]
        congr 1
        by_cases h4 : kb = 2
        · subst h3 h4; rfl
        · have : (kb == 2) = false := by simpa using h4
          rw [this, decide_eq_false (fun h => h4 h.2)]
      · rw [if_neg h3, decide_eq_false (fun h => h3 h.1)]
    refine Ev.congr (fun k => by rw [if_pos rfl]) (Ev.next ?_ j0)
    by_cases c3 : ka = 2 ∧ kb = 2
    · rw [if_pos c3, decide_eq_true c3]
      refine Ev.stops (fun k => ?_)
      rw [arith_two_34.j1_eq, if_pos rfl, sub_eq, Option.bind_some, of_eq, Option.bind_some]
    · rw [if_neg c3, decide_eq_false c3]
      refine Ev.step (fun k => by rw [arith_two_34.j1_eq, if_neg (by decide)]) (Ev.bind (decs_ev ka na ta kb nb tb ha hb) ?_)
      refine Ev.congr (fun k => ?_) (Ev.now _)
      by_cases c4 : (decsV ka na kb nb).2.2 = true
      · rw [if_pos c4, if_pos c4, sub_eq, Option.bind_some, of_eq, Option.bind_some]; rfl
      · rw [if_neg c4, if_neg c4]; rfl
theorem add_ev (ka na : Int) (ta : ByteArray) (kb nb : Int) (tb : ByteArray) (ha : i64 na) (hb : i64 nb) : Ev (fun k => arith_Add.f k ka na ta kb nb tb) (twoV addV ka na kb nb) :=
  Ev.congr (fun k => by unfold arith_Add.f; rfl) (Ev.bind (two33_ev ka na ta kb nb tb ha hb) (Ev.now _))
theorem sub_ev (ka na : Int) (ta : ByteArray) (kb nb : Int) (tb : ByteArray) (ha : i64 na) (hb : i64 nb) : Ev (fun k => arith_Sub.f k ka na ta kb nb tb) (twoV subV ka na kb nb) :=
  Ev.congr (fun k => by unfold arith_Sub.f; rfl) (Ev.bind (two34_ev ka na ta kb nb tb ha hb) (Ev.now _))
/-- A quotient. -/
def divV (ka na kb nb : Int) : Val :=
  if (ask ka kb).2 ≠ 0 ∨ (ask ka kb).1 = true then (0, 0, E, (ask ka kb).2)
  else if nb = 0 then (0, 0, E, 21)
  else if ka = 2 ∧ kb = 2 then ofV 2 (md na 1 nb)
  else if (decsV ka na kb nb).2.2 = true then ofV 3 (md (decV ka na).1 10000 (decV kb nb).1) else (0, 0, E, 20)
def zeroV (ka kb nb : Int) : Bool × Int := if (ask ka kb).2 = 0 ∧ (ask ka kb).1 = false ∧ nb = 0 then ((ask ka kb).1, 21) else ask ka kb
theorem zero_ev (ka na : Int) (ta : ByteArray) (kb nb : Int) (tb : ByteArray) : Ev (fun k => arith_zero.f k ka na ta kb nb tb) (zeroV ka kb nb) := by
  refine Ev.congr (fun k => by unfold arith_zero.f; rfl) (Ev.bind (asked2_ev ⟨ka, na, ta⟩ ⟨kb, nb, tb⟩) ?_)
  unfold zeroV
  show Ev (fun k => if (ask ka kb).2 = 0 then _ else _) _
  generalize ask ka kb = q
  obtain ⟨qb, qe⟩ := q
  refine Ev.congr (fun k => ?_) (Ev.now _)
  show (if qe = 0 then if qb = true then some (qb, qe) else if nb = 0 then some (qb, 21) else some (qb, qe) else some (qb, qe)) = some (if qe = 0 ∧ qb = false ∧ nb = 0 then (qb, 21) else (qb, qe))
  by_cases c0 : qe = 0
  · cases qb
    · by_cases c1 : nb = 0
      · rw [if_pos c0, if_neg (by decide), if_pos c1, if_pos ⟨c0, rfl, c1⟩]
      · rw [if_pos c0, if_neg (by decide), if_neg c1, if_neg (fun h => c1 h.2.2)]
    · rw [if_pos c0, if_pos rfl, if_neg (fun h => by cases h.2.1)]
  · rw [if_neg c0, if_neg (fun h => c0 h.1)]
theorem div_ev (ka na : Int) (ta : ByteArray) (kb nb : Int) (tb : ByteArray) (ha : i64 na) (hb : i64 nb) : Ev (fun k => arith_Div.f k ka na ta kb nb tb) (divV ka na kb nb) := by
  refine Ev.congr (fun k => by unfold arith_Div.f; rfl) (Ev.bind (zero_ev ka na ta kb nb tb) ?_)
  unfold divV zeroV
  generalize ask ka kb = q
  obtain ⟨qb, qe⟩ := q
  show Ev (fun k => if (if qe = 0 ∧ qb = false ∧ nb = 0 then (qb, 21) else (qb, qe)).2 = 0 then arith_Div.j0 k (if qe = 0 ∧ qb = false ∧ nb = 0 then (qb, 21) else (qb, qe)).2 (if qe = 0 ∧ qb = false ∧ nb = 0 then ((qb, 21) : Bool × Int) else (qb, qe)).1 ka na ta kb nb tb else arith_Div.j0 k (if qe = 0 ∧ qb = false ∧ nb = 0 then ((qb, 21) : Bool × Int) else (qb, qe)).2 true ka na ta kb nb tb) (if qe ≠ 0 ∨ qb = true then (0, 0, E, qe) else if nb = 0 then (0, 0, E, 21) else _)
  by_cases c : qe ≠ 0 ∨ qb = true
  · rw [if_pos c, if_neg (fun h => c.elim (fun h' => h' h.1) (fun h' => by rw [h'] at h; cases h.2.1))]
    refine Ev.stops (fun k => ?_)
    show (if qe = 0 then arith_Div.j0 (k + 1) qe qb ka na ta kb nb tb else arith_Div.j0 (k + 1) qe true ka na ta kb nb tb) = _
    by_cases c0 : qe = 0
    · have hb' : qb = true := c.elim (fun h => absurd c0 h) id
      rw [if_pos c0, arith_Div.j0_eq, if_pos hb']; rfl
    · rw [if_neg c0, arith_Div.j0_eq, if_pos rfl]; rfl
  · rw [if_neg c]
    have c0 : qe = 0 := by
      by_cases h : qe = 0
      · exact h
      · exact absurd (.inl h) c
    have c1 : qb = false := by
      cases h : qb
      · rfl
      · exact absurd (.inr h) c
    subst c0 c1
    by_cases cn : nb = 0
    · rw [if_pos ⟨rfl, rfl, cn⟩, if_pos cn]
      refine Ev.stops (fun k => ?_)
      show (if (21 : Int) = 0 then _ else arith_Div.j0 (k + 1) 21 true ka na ta kb nb tb) = _
      rw [if_neg (by decide), arith_Div.j0_eq, if_pos rfl]; rfl
    · rw [if_neg (fun h => cn h.2.2), if_neg cn]
      have j0 : ∀ k, arith_Div.j0 (k + 1) 0 false ka na ta kb nb tb = arith_Div.j1 k (decide (ka = 2 ∧ kb = 2)) ka na ta kb nb tb := fun k => by
        rw [arith_Div.j0_eq, if_neg (by decide)]
        by_cases h3 : ka = 2
        · rw [if_pos h3]
          congr 1
          by_cases h4 : kb = 2
          · subst h3 h4; rfl
          · have : (kb == 2) = false := by simpa using h4
            rw [this, decide_eq_false (fun h => h4 h.2)]
        · rw [if_neg h3, decide_eq_false (fun h => h3 h.1)]
      refine Ev.congr (fun k => by rw [if_pos rfl]) (Ev.next ?_ j0)
      by_cases c3 : ka = 2 ∧ kb = 2
      · rw [if_pos c3, decide_eq_true c3]
        refine Ev.step (fun k => by rw [arith_Div.j1_eq, if_pos rfl]) (Ev.bind (muldiv_ev na 1 nb ha (i64_small (by omega)) hb) ?_)
        refine Ev.congr (fun k => ?_) (Ev.now _)
        rw [of_eq, Option.bind_some]
      · rw [if_neg c3, decide_eq_false c3]
        refine Ev.step (fun k => by rw [arith_Div.j1_eq, if_neg (by decide)]) (Ev.bind (decs_ev ka na ta kb nb tb ha hb) ?_)
        by_cases c4 : (decsV ka na kb nb).2.2 = true
        · rw [if_pos c4]
          refine Ev.congr (fun k => by rw [if_pos c4]; rfl) (Ev.bind (muldiv_ev (decV ka na).1 10000 (decV kb nb).1 (decV_i64 _ _ ha) (i64_small (by omega)) (decV_i64 _ _ hb)) ?_)
          refine Ev.congr (fun k => ?_) (Ev.now _)
          rw [of_eq, Option.bind_some]
        · rw [if_neg c4]
          exact Ev.congr (fun k => by rw [if_neg c4]; rfl) (Ev.now _)
end Go.Proofs.Ytnfolhfnkbidgaa
