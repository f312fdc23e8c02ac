import Derived.Test.YtnfolhfnkbidgaaPx14
import Derived.Test.YtnfolhfnkbidgaaPlRef
namespace Go.Proofs.Ytnfolhfnkbidgaa.Ref
open Go.RowKit Go.Proofs.Ytnfolhfnkbidgaa Print Go.Proofs.YtnfolhfnkbidgaaW.PrintWords Go.Proofs.YtnfolhfnkbidgaaW.PrintMore
theorem r_mulDiv.l0_eq (k : Nat) (x0 : Int) (x1 : Int) (x2 : Int) (x10 : Int) (x16 : Int) (x17 : Int) (x18 : Int) (x19 : Int) (x20 : Bool) (x21 : Int) : marqueeref02_mulDiv.l0 (k + 1) x0 x1 x2 x10 x16 x17 x18 x19 x20 x21 = if x21 ≥ 0 then (if 0 ≤ (IntKind.u64.wrap (Go.bits .and .i64 x21 63)) then (if x21 ≥ 64 then (if 0 ≤ (IntKind.u64.wrap (wrap64 (x21 - 64))) then (if x20 = true then (if (Go.bits .or .u64 (IntKind.u64.wrap (x18 * 2)) (Go.bits .and .u64 (shr .u64 x17 (IntKind.u64.wrap (wrap64 (x21 - 64)))) 1)) ≥ x10 then (marqueeref02_mulDiv.l0 k x0 x1 x2 x10 x16 x17 (IntKind.u64.wrap ((Go.bits .or .u64 (IntKind.u64.wrap (x18 * 2)) (Go.bits .and .u64 (shr .u64 x17 (IntKind.u64.wrap (wrap64 (x21 - 64)))) 1)) - x10)) (Go.bits .or .u64 (IntKind.u64.wrap (x19 * 2)) 1) true (wrap64 (x21 - 1))) else (marqueeref02_mulDiv.l0 k x0 x1 x2 x10 x16 x17 (Go.bits .or .u64 (IntKind.u64.wrap (x18 * 2)) (Go.bits .and .u64 (shr .u64 x17 (IntKind.u64.wrap (wrap64 (x21 - 64)))) 1)) (IntKind.u64.wrap (x19 * 2)) true (wrap64 (x21 - 1)))) else (if (Go.bits .or .u64 (IntKind.u64.wrap (x18 * 2)) (Go.bits .and .u64 (shr .u64 x17 (IntKind.u64.wrap (wrap64 (x21 - 64)))) 1)) ≥ x10 then (marqueeref02_mulDiv.l0 k x0 x1 x2 x10 x16 x17 (IntKind.u64.wrap ((Go.bits .or .u64 (IntKind.u64.wrap (x18 * 2)) (Go.bits .and .u64 (shr .u64 x17 (IntKind.u64.wrap (wrap64 (x21 - 64)))) 1)) - x10)) (Go.bits .or .u64 (IntKind.u64.wrap (x19 * 2)) 1) ((x19 / 9223372036854775808) == 1) (wrap64 (x21 - 1))) else (marqueeref02_mulDiv.l0 k x0 x1 x2 x10 x16 x17 (Go.bits .or .u64 (IntKind.u64.wrap (x18 * 2)) (Go.bits .and .u64 (shr .u64 x17 (IntKind.u64.wrap (wrap64 (x21 - 64)))) 1)) (IntKind.u64.wrap (x19 * 2)) ((x19 / 9223372036854775808) == 1) (wrap64 (x21 - 1))))) else (none)) else (if x20 = true then (if (Go.bits .or .u64 (IntKind.u64.wrap (x18 * 2)) (Go.bits .and .u64 (shr .u64 x16 (IntKind.u64.wrap (Go.bits .and .i64 x21 63))) 1)) ≥ x10 then (marqueeref02_mulDiv.l0 k x0 x1 x2 x10 x16 x17 (IntKind.u64.wrap ((Go.bits .or .u64 (IntKind.u64.wrap (x18 * 2)) (Go.bits .and .u64 (shr .u64 x16 (IntKind.u64.wrap (Go.bits .and .i64 x21 63))) 1)) - x10)) (Go.bits .or .u64 (IntKind.u64.wrap (x19 * 2)) 1) true (wrap64 (x21 - 1))) else (marqueeref02_mulDiv.l0 k x0 x1 x2 x10 x16 x17 (Go.bits .or .u64 (IntKind.u64.wrap (x18 * 2)) (Go.bits .and .u64 (shr .u64 x16 (IntKind.u64.wrap (Go.bits .and .i64 x21 63))) 1)) (IntKind.u64.wrap (x19 * 2)) true (wrap64 (x21 - 1)))) else (if (Go.bits .or .u64 (IntKind.u64.wrap (x18 * 2)) (Go.bits .and .u64 (shr .u64 x16 (IntKind.u64.wrap (Go.bits .and .i64 x21 63))) 1)) ≥ x10 then (marqueeref02_mulDiv.l0 k x0 x1 x2 x10 x16 x17 (IntKind.u64.wrap ((Go.bits .or .u64 (IntKind.u64.wrap (x18 * 2)) (Go.bits .and .u64 (shr .u64 x16 (IntKind.u64.wrap (Go.bits .and .i64 x21 63))) 1)) - x10)) (Go.bits .or .u64 (IntKind.u64.wrap (x19 * 2)) 1) ((x19 / 9223372036854775808) == 1) (wrap64 (x21 - 1))) else (marqueeref02_mulDiv.l0 k x0 x1 x2 x10 x16 x17 (Go.bits .or .u64 (IntKind.u64.wrap (x18 * 2)) (Go.bits .and .u64 (shr .u64 x16 (IntKind.u64.wrap (Go.bits .and .i64 x21 63))) 1)) (IntKind.u64.wrap (x19 * 2)) ((x19 / 9223372036854775808) == 1) (wrap64 (x21 - 1)))))) else (none)) else (if x20 = true then (marqueeref02_mulDiv.j1 k x19 (((decide (x0 < 0)) != (decide (x1 < 0))) != (decide (x2 < 0))) true) else (if x19 > 9223372036854775808 then (marqueeref02_mulDiv.j1 k x19 (((decide (x0 < 0)) != (decide (x1 < 0))) != (decide (x2 < 0))) true) else (if x19 = 9223372036854775808 then (marqueeref02_mulDiv.j1 k x19 (((decide (x0 < 0)) != (decide (x1 < 0))) != (decide (x2 < 0))) (!(((decide (x0 < 0)) != (decide (x1 < 0))) != (decide (x2 < 0))))) else (marqueeref02_mulDiv.j1 k x19 (((decide (x0 < 0)) != (decide (x1 < 0))) != (decide (x2 < 0))) false)))) := by
  rw [marqueeref02_mulDiv.l0]
theorem r_mulDiv.j1_eq (k : Nat) (x19 : Int) (x23 : Bool) (x125 : Bool) : marqueeref02_mulDiv.j1 (k + 1) x19 x23 x125 = if x125 = true then (some (0, false)) else (if x23 = true then (some (wrap64 (IntKind.u64.wrap (-x19)), true)) else (some (wrap64 (x19), true))) := by
  rw [marqueeref02_mulDiv.j1]
theorem and63 : ∀ i : Fin 128, Go.bits .and .i64 (i.val : Int) 63 = ((i.val % 64 : Nat) : Int) := by decide +kernel
theorem and1 (n : Nat) (h : n < 18446744073709551616) : Go.bits .and .u64 (n : Int) 1 = ((n % 2 : Nat) : Int) := by
  have := u64_and_nat n 1 h (by decide)
  rw [show ((1 : Nat) : Int) = 1 from rfl] at this
  rw [this, show (1 : Nat) = 2 ^ 1 - 1 from rfl, Nat.and_two_pow_sub_one_eq_mod]
theorem shr_nat (n s : Nat) (h : s < 64) : shr .u64 (n : Int) (s : Int) = ((n / 2 ^ s : Nat) : Int) := by
  unfold shr
  rw [Int.toNat_natCast, show min s IntKind.u64.bits = s from Nat.min_eq_left (Nat.le_of_lt h)]
  simp
theorem uw_nat (n : Nat) (h : n < 18446744073709551616) : IntKind.u64.wrap (n : Int) = (n : Int) := by rw [uw]; omega
theorem or_bit (r b : Nat) (hb : b < 2) (h : 2 * r + b < 18446744073709551616) : Go.bits .or .u64 ((2 * r : Nat) : Int) (b : Int) = ((2 * r + b : Nat) : Int) := by
  have := or_low r b 1 (by omega) (by omega)
  rw [show r * 2 ^ 1 = 2 * r by omega] at this
  exact this
theorem or_bit_one (r : Nat) (h : 2 * r + 1 < 18446744073709551616) : Go.bits .or .u64 ((2 * r : Nat) : Int) 1 = ((2 * r + 1 : Nat) : Int) := or_bit r 1 (by decide) h
/-- The bit of a product of two words. -/
def bitOf (hi lo n : Nat) : Nat := (hi * 18446744073709551616 + lo) / 2 ^ n % 2
theorem bit_high (hi lo n : Nat) (h1 : 64 ≤ n) (hl : lo < 18446744073709551616) : hi / 2 ^ (n - 64) % 2 = bitOf hi lo n := by
  unfold bitOf
  have e : 2 ^ n = 18446744073709551616 * 2 ^ (n - 64) := by
    rw [show (18446744073709551616 : Nat) = 2 ^ 64 from rfl, ← Nat.pow_add]; congr 1; omega
  rw [e, ← Nat.div_div_eq_div_mul, show (hi * 18446744073709551616 + lo) / 18446744073709551616 = hi by omega]
theorem bit_low (hi lo n : Nat) (h1 : n < 64) : lo / 2 ^ n % 2 = bitOf hi lo n := by
  unfold bitOf
  have e : hi * 18446744073709551616 + lo = lo + 2 ^ n * (hi * 2 ^ (63 - n) * 2) := by
    have : (18446744073709551616 : Nat) = 2 ^ n * 2 ^ (63 - n) * 2 := by
      have h64 : n + (63 - n) + 1 = 64 := by omega
      rw [← Nat.pow_add, ← Nat.pow_succ]
      show _ = 2 ^ (n + (63 - n) + 1)
      rw [h64]
    rw [this, Nat.add_comm, Nat.mul_assoc, Nat.mul_assoc, Nat.mul_left_comm hi]
  rw [e, Nat.add_mul_div_left _ _ (Nat.two_pow_pos n), Nat.add_mul_mod_self_right]
/-- What a round does to the rest and the quotient. -/
theorem round_mul (P z n : Nat) (hz : 0 < z) :
    let Q := P / 2 ^ (n + 1) / z
    let r := P / 2 ^ (n + 1) % z
    let b := P / 2 ^ n % 2
    (2 * r + b < z → P / 2 ^ n / z = 2 * Q ∧ P / 2 ^ n % z = 2 * r + b) ∧ (z ≤ 2 * r + b → P / 2 ^ n / z = 2 * Q + 1 ∧ P / 2 ^ n % z = 2 * r + b - z) := by
  intro Q r b
  have e : P / 2 ^ (n + 1) = P / 2 ^ n / 2 := by rw [Nat.pow_succ, Nat.div_div_eq_div_mul]
  have h1 : P / 2 ^ n = 2 * (P / 2 ^ (n + 1)) + b := by rw [e]; show _ = _ + P / 2 ^ n % 2; omega
  have h2 : P / 2 ^ (n + 1) = z * Q + r := (Nat.div_add_mod _ _).symm
  have hr : r < z := Nat.mod_lt _ hz
  have hb : b < 2 := Nat.mod_lt _ (by decide)
  have h3 : P / 2 ^ n = 2 * r + b + z * (2 * Q) := by rw [h1, h2, Nat.mul_left_comm z 2 Q]; omega
  refine ⟨fun h => ?_, fun h => ?_⟩
  · rw [h3, Nat.add_mul_div_left _ _ hz, Nat.add_mul_mod_self_left, Nat.div_eq_of_lt h, Nat.mod_eq_of_lt h]
    exact ⟨by omega, rfl⟩
  · have h4 : P / 2 ^ n = 2 * r + b - z + z * (2 * Q + 1) := by rw [h3, Nat.mul_add]; omega
    rw [h4, Nat.add_mul_div_left _ _ hz, Nat.add_mul_mod_self_left, Nat.div_eq_of_lt (by omega), Nat.mod_eq_of_lt (by omega)]
    exact ⟨by omega, rfl⟩
theorem next_l0 (k : Nat) (x0 x1 x2 : Int) (z lo hi r q : Nat) (o : Bool) (n : Nat) (hn : n < 128) (hhi : hi < 18446744073709551616) (hlo : lo < 18446744073709551616) (hr : r < z) (hz : z ≤ 9223372036854775808) :
    marqueeref02_mulDiv.l0 (k + 1) x0 x1 x2 (z : Int) (lo : Int) (hi : Int) (r : Int) (q : Int) o (n : Int) =
      (if ((2 * r + bitOf hi lo n : Nat) : Int) ≥ (z : Int) then marqueeref02_mulDiv.l0 k x0 x1 x2 (z : Int) (lo : Int) (hi : Int) (IntKind.u64.wrap (((2 * r + bitOf hi lo n : Nat) : Int) - z)) (Go.bits .or .u64 (IntKind.u64.wrap ((q : Int) * 2)) 1) (o || ((q : Int) / 9223372036854775808) == 1) (wrap64 ((n : Int) - 1))
       else marqueeref02_mulDiv.l0 k x0 x1 x2 (z : Int) (lo : Int) (hi : Int) ((2 * r + bitOf hi lo n : Nat) : Int) (IntKind.u64.wrap ((q : Int) * 2)) (o || ((q : Int) / 9223372036854775808) == 1) (wrap64 ((n : Int) - 1))) := by
  have hb : bitOf hi lo n < 2 := Nat.mod_lt _ (by decide)
  have a63 : Go.bits .and .i64 (n : Int) 63 = ((n % 64 : Nat) : Int) := and63 ⟨n, hn⟩
  have er : IntKind.u64.wrap ((r : Int) * 2) = ((2 * r : Nat) : Int) := by rw [uw]; omega
  rw [r_mulDiv.l0_eq, if_pos (by omega), a63, uw_nat _ (by omega), if_pos (by omega), er]
  by_cases h64 : n ≥ 64
  · have e1 : wrap64 ((n : Int) - 64) = ((n - 64 : Nat) : Int) := by rw [w64 ⟨by omega, by omega⟩]; omega
    have hlt : hi / 2 ^ (n - 64) < 18446744073709551616 := Nat.lt_of_le_of_lt (Nat.div_le_self _ _) hhi
    rw [if_pos (show (n : Int) ≥ 64 by omega), e1, uw_nat _ (by omega), if_pos (by omega), shr_nat _ _ (by omega), and1 _ hlt, bit_high hi lo n h64 hlo, or_bit _ _ hb (by omega)]
    cases o
    · rw [if_neg (by decide), Bool.false_or]
    · rw [if_pos rfl, Bool.true_or]
  · have hlt : lo / 2 ^ n < 18446744073709551616 := Nat.lt_of_le_of_lt (Nat.div_le_self _ _) hlo
    have em : n % 64 = n := Nat.mod_eq_of_lt (by omega)
    rw [if_neg (show ¬ (n : Int) ≥ 64 by omega), em, shr_nat _ _ (by omega), and1 _ hlt, bit_low hi lo n (by omega), or_bit _ _ hb (by omega)]
    cases o
    · rw [if_neg (by decide), Bool.false_or]
    · rw [if_pos rfl, Bool.true_or]
theorem over_next (Q Q' : Nat) (h : Q' = 2 * Q ∨ Q' = 2 * Q + 1) : (decide (18446744073709551616 ≤ Q) || (((Q % 18446744073709551616 : Nat) : Int) / 9223372036854775808) == 1) = decide (18446744073709551616 ≤ Q') := by
  by_cases c : 18446744073709551616 ≤ Q
  · rw [decide_eq_true c, Bool.true_or, decide_eq_true (by omega)]
  · rw [decide_eq_false c, Bool.false_or, Nat.mod_eq_of_lt (by omega)]
    by_cases g : 9223372036854775808 ≤ Q
    · rw [decide_eq_true (by omega), show ((Q : Nat) : Int) / 9223372036854775808 = 1 by omega]; rfl
    · rw [decide_eq_false (by omega), show ((Q : Nat) : Int) / 9223372036854775808 = 0 by omega]; rfl
theorem loop (a b d : Int) (z lo hi : Nat) (hhi : hi < 18446744073709551616) (hlo : lo < 18446744073709551616) (hz0 : 0 < z) (hz : z ≤ 9223372036854775808) (R : Int × Bool) (P : Nat) (hP : P = hi * 18446744073709551616 + lo)
    (hend : Ev (fun k => marqueeref02_mulDiv.l0 k a b d (z : Int) (lo : Int) (hi : Int) ((P % z : Nat) : Int) ((P / z % 18446744073709551616 : Nat) : Int) (decide (18446744073709551616 ≤ P / z)) (-1)) R) :
    ∀ n : Nat, n ≤ 128 → Ev (fun k => marqueeref02_mulDiv.l0 k a b d (z : Int) (lo : Int) (hi : Int) ((P / 2 ^ n % z : Nat) : Int) ((P / 2 ^ n / z % 18446744073709551616 : Nat) : Int) (decide (18446744073709551616 ≤ P / 2 ^ n / z)) ((n : Int) - 1)) R := by
  intro n
  induction n with
  | zero =>
    intro _
    rw [Nat.pow_zero, Nat.div_one]
    exact hend
  | succ n ih =>
    intro hn
    refine Ev.next (ih (by omega)) (fun k => ?_)
    have hr : P / 2 ^ (n + 1) % z < z := Nat.mod_lt _ hz0
    have hm := round_mul P z n hz0
    have hbit : P / 2 ^ n % 2 = bitOf hi lo n := by rw [hP]; rfl
    simp only [hbit] at hm
    have en : ((n + 1 : Nat) : Int) - 1 = (n : Int) := by omega
    rw [en, next_l0 k a b d z lo hi (P / 2 ^ (n + 1) % z) (P / 2 ^ (n + 1) / z % 18446744073709551616) _ n (by omega) hhi hlo hr hz]
    have hb : bitOf hi lo n < 2 := Nat.mod_lt _ (by decide)
    generalize bitOf hi lo n = bt at hm hb ⊢
    generalize P / 2 ^ (n + 1) % z = r at hm hr ⊢
    generalize P / 2 ^ (n + 1) / z = Q at hm ⊢
    generalize P / 2 ^ n = P' at hm ⊢
    have en1 : wrap64 ((n : Int) - 1) = (n : Int) - 1 := w64 ⟨by omega, by omega⟩
    have eq : IntKind.u64.wrap (((Q % 18446744073709551616 : Nat) : Int) * 2) = ((2 * (Q % 9223372036854775808) : Nat) : Int) := by rw [uw]; omega
    rw [en1, eq]
    by_cases c : z ≤ 2 * r + bt
    · obtain ⟨h1, h2⟩ := hm.2 c
      rw [if_pos (by omega), h1, h2, over_next Q (2 * Q + 1) (.inr rfl), uw, or_bit_one _ (by omega)]
      congr 1 <;> omega
    · obtain ⟨h1, h2⟩ := hm.1 (by omega)
      rw [if_neg (by omega), h1, h2, over_next Q (2 * Q) (.inl rfl)]
      congr 1; omega
end Go.Proofs.Ytnfolhfnkbidgaa.Ref
