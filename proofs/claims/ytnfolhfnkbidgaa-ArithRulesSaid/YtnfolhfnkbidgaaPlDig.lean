import Derived.Test.YtnfolhfnkbidgaaPx2
import Derived.Lib.ItoaNum
import Derived.IntWalk
import Derived.Laws.Bits64
import Derived.Laws.BitsAllLaws
namespace Go.Proofs.Ytnfolhfnkbidgaa
open Go.RowKit Print Go.Proofs.YtnfolhfnkbidgaaW.PrintWords Go.Proofs.YtnfolhfnkbidgaaW.PrintMore
theorem bits_Div64.j2_eq (k : Nat) (x2 : Int) (x8 : Int) (x9 : Int) (x10 : Int) (x11 : Int) (x13 : Int) (x14 : Int) (x15 : Int) : bits_Div64.j2 (k + 1) x2 x8 x9 x10 x11 x13 x14 x15 = if x9 = 0 then (none) else (bits_Div64.l1 k x2 x8 x9 x10 x14 x15 (IntKind.u64.wrap ((IntKind.u64.wrap ((IntKind.u64.wrap ((IntKind.u64.wrap (x11 * 4294967296)) + x13)) - (IntKind.u64.wrap (x15 * x2)))) - (IntKind.u64.wrap ((IntKind.u64.wrap (Int.tdiv (IntKind.u64.wrap ((IntKind.u64.wrap ((IntKind.u64.wrap (x11 * 4294967296)) + x13)) - (IntKind.u64.wrap (x15 * x2)))) x9)) * x9)))) (IntKind.u64.wrap ((IntKind.u64.wrap ((IntKind.u64.wrap (x11 * 4294967296)) + x13)) - (IntKind.u64.wrap (x15 * x2)))) (IntKind.u64.wrap (Int.tdiv (IntKind.u64.wrap ((IntKind.u64.wrap ((IntKind.u64.wrap (x11 * 4294967296)) + x13)) - (IntKind.u64.wrap (x15 * x2)))) x9))) := by
  rw [bits_Div64.j2]
theorem bits_Div64.l1_eq (k : Nat) (x2 : Int) (x8 : Int) (x9 : Int) (x10 : Int) (x14 : Int) (x15 : Int) (x16 : Int) (x17 : Int) (x18 : Int) : bits_Div64.l1 (k + 1) x2 x8 x9 x10 x14 x15 x16 x17 x18 = if x18 ≥ 4294967296 then (bits_Div64.j4 k x2 x8 x9 x10 x14 x15 x16 x17 x18 true) else (bits_Div64.j4 k x2 x8 x9 x10 x14 x15 x16 x17 x18 (decide ((IntKind.u64.wrap (x18 * x10)) > (IntKind.u64.wrap ((IntKind.u64.wrap (4294967296 * x16)) + x14))))) := by
  rw [bits_Div64.l1]
theorem bits_Div64.j4_eq (k : Nat) (x2 : Int) (x8 : Int) (x9 : Int) (x10 : Int) (x14 : Int) (x15 : Int) (x16 : Int) (x17 : Int) (x18 : Int) (x113 : Bool) : bits_Div64.j4 (k + 1) x2 x8 x9 x10 x14 x15 x16 x17 x18 x113 = if x113 = true then (if (IntKind.u64.wrap (x16 + x9)) ≥ 4294967296 then (if 0 ≤ x8 then (some (IntKind.u64.wrap ((IntKind.u64.wrap (x15 * 4294967296)) + (IntKind.u64.wrap (x18 - 1))), shr .u64 (IntKind.u64.wrap ((IntKind.u64.wrap ((IntKind.u64.wrap (x17 * 4294967296)) + x14)) - (IntKind.u64.wrap ((IntKind.u64.wrap (x18 - 1)) * x2)))) x8)) else (none)) else (bits_Div64.l1 k x2 x8 x9 x10 x14 x15 (IntKind.u64.wrap (x16 + x9)) x17 (IntKind.u64.wrap (x18 - 1)))) else (if 0 ≤ x8 then (some (IntKind.u64.wrap ((IntKind.u64.wrap (x15 * 4294967296)) + x18), shr .u64 (IntKind.u64.wrap ((IntKind.u64.wrap ((IntKind.u64.wrap (x17 * 4294967296)) + x14)) - (IntKind.u64.wrap (x18 * x2)))) x8)) else (none)) := by
  rw [bits_Div64.j4]
theorem bits_Div64.l0_eq (k : Nat) (x2 : Int) (x8 : Int) (x9 : Int) (x10 : Int) (x11 : Int) (x13 : Int) (x14 : Int) (x15 : Int) (x16 : Int) : bits_Div64.l0 (k + 1) x2 x8 x9 x10 x11 x13 x14 x15 x16 = if x15 ≥ 4294967296 then (bits_Div64.j1 k x2 x8 x9 x10 x11 x13 x14 x15 x16 true) else (bits_Div64.j1 k x2 x8 x9 x10 x11 x13 x14 x15 x16 (decide ((IntKind.u64.wrap (x15 * x10)) > (IntKind.u64.wrap ((IntKind.u64.wrap (4294967296 * x16)) + x13))))) := by
  rw [bits_Div64.l0]
theorem bits_Div64.j1_eq (k : Nat) (x2 : Int) (x8 : Int) (x9 : Int) (x10 : Int) (x11 : Int) (x13 : Int) (x14 : Int) (x15 : Int) (x16 : Int) (x78 : Bool) : bits_Div64.j1 (k + 1) x2 x8 x9 x10 x11 x13 x14 x15 x16 x78 = if x78 = true then (if (IntKind.u64.wrap (x16 + x9)) ≥ 4294967296 then (bits_Div64.j2 k x2 x8 x9 x10 x11 x13 x14 (IntKind.u64.wrap (x15 - 1))) else (bits_Div64.l0 k x2 x8 x9 x10 x11 x13 x14 (IntKind.u64.wrap (x15 - 1)) (IntKind.u64.wrap (x16 + x9)))) else (bits_Div64.j2 k x2 x8 x9 x10 x11 x13 x14 x15) := by
  rw [bits_Div64.j1]
theorem Ev.stops {α : Type} {g : Nat → Option α} {r : α} (h : ∀ k, g (k + 1) = some r) : Ev g r := Ev.step (f := fun _ => some r) h (Ev.now r)
theorem Ev.next {α : Type} {g f : Nat → Option α} {r : α} (k : Ev f r) (h : ∀ k, g (k + 1) = f k) : Ev g r := Ev.step h k
theorem uw (x : Int) : IntKind.u64.wrap x = x % 18446744073709551616 := IntKind.wrap_u64 x
theorem uin {x : Int} (h : 0 ≤ x) (h2 : x ≤ 18446744073709551615) : IntKind.u64.wrap x = x := by rw [uw]; omega
/-- One digit of a long division: Y = y1 * B + y0 divides U * B + u; the quotient's guess goes down. -/
structure Dig (Y y1 y0 U u q r : Int) : Prop where
  hy : Y = y1 * 4294967296 + y0
  h1 : 2147483648 ≤ y1
  h1' : y1 < 4294967296
  h0 : 0 ≤ y0
  h0' : y0 < 4294967296
  hu : 0 ≤ u
  hu' : u < 4294967296
  hU : 0 ≤ U
  hUY : U < Y
  hq : q * y1 + r = U
  hr : 0 ≤ r
  hQ : (U * 4294967296 + u) / Y ≤ q
  hqB : q ≤ 4294967297
theorem Dig.Y_pos {Y y1 y0 U u q r : Int} (d : Dig Y y1 y0 U u q r) : 0 < Y := by have := d.hy; have := d.h1; have := d.h0; omega
theorem Dig.Q_lt {Y y1 y0 U u q r : Int} (d : Dig Y y1 y0 U u q r) : (U * 4294967296 + u) / Y < 4294967296 := by
  apply Int.ediv_lt_of_lt_mul d.Y_pos
  have := d.hUY; have := d.hu'
  omega
theorem Dig.Q_nonneg {Y y1 y0 U u q r : Int} (d : Dig Y y1 y0 U u q r) : 0 ≤ (U * 4294967296 + u) / Y := Int.ediv_nonneg (by have := d.hU; have := d.hu; omega) (Int.le_of_lt d.Y_pos)
/-- The guess is right just where the test says no. -/
theorem Dig.test {Y y1 y0 U u q r : Int} (d : Dig Y y1 y0 U u q r) : q ≤ (U * 4294967296 + u) / Y ↔ q * y0 ≤ 4294967296 * r + u := by
  rw [Int.le_ediv_iff_mul_le d.Y_pos]
  have e : q * Y = q * y1 * 4294967296 + q * y0 := by rw [d.hy, Int.mul_add, Int.mul_assoc]
  have := d.hq
  rw [e]
  omega
theorem Dig.down {Y y1 y0 U u q r : Int} (d : Dig Y y1 y0 U u q r) (h : (U * 4294967296 + u) / Y < q) : Dig Y y1 y0 U u (q - 1) (r + y1) where
  hy := d.hy
  h1 := d.h1
  h1' := d.h1'
  h0 := d.h0
  h0' := d.h0'
  hu := d.hu
  hu' := d.hu'
  hU := d.hU
  hUY := d.hUY
  hq := by have := d.hq; rw [Int.sub_mul]; omega
  hr := by have := d.hr; have := d.h1; omega
  hQ := by omega
  hqB := by have := d.hqB; omega
/-- A rest of B or more: the guess is right. -/
theorem Dig.done {Y y1 y0 U u q r : Int} (d : Dig Y y1 y0 U u q r) (hB : 4294967296 ≤ r) (hq : q ≤ 4294967296) : q = (U * 4294967296 + u) / Y := by
  have hQ := d.hQ
  have hQ0 := d.Q_nonneg
  have : q ≤ (U * 4294967296 + u) / Y := by
    rw [d.test]
    have h1 : q * y0 ≤ 4294967296 * y0 := Int.mul_le_mul_of_nonneg_right hq d.h0
    have := d.h0'
    have := d.hu
    omega
  omega
theorem Dig.start {Y y1 y0 U u : Int} (hy : Y = y1 * 4294967296 + y0) (h1 : 2147483648 ≤ y1) (h1' : y1 < 4294967296) (h0 : 0 ≤ y0) (h0' : y0 < 4294967296) (hu : 0 ≤ u) (hu' : u < 4294967296) (hU : 0 ≤ U) (hUY : U < Y) : Dig Y y1 y0 U u (U / y1) (U - U / y1 * y1) where
  hy := hy
  h1 := h1
  h1' := h1'
  h0 := h0
  h0' := h0'
  hu := hu
  hu' := hu'
  hU := hU
  hUY := hUY
  hq := by omega
  hr := by have := Int.ediv_mul_le U (show y1 ≠ 0 by omega); omega
  hQ := by
    have hY : 0 < Y := by omega
    rw [Int.le_ediv_iff_mul_le (by omega)]
    have a := Int.ediv_mul_le (U * 4294967296 + u) (show Y ≠ 0 by omega)
    generalize (U * 4294967296 + u) / Y = Q at a ⊢
    rw [hy, Int.mul_add, ← Int.mul_assoc] at a
    by_cases hQ : 0 ≤ Q
    · have : 0 ≤ Q * y0 := Int.mul_nonneg hQ h0
      omega
    · have : Q * y1 ≤ 0 := by
        have := Int.mul_le_mul_of_nonneg_right (show Q ≤ 0 by omega) (show 0 ≤ y1 by omega)
        omega
      omega
  hqB := by
    have : U / y1 < 4294967298 := by
      apply Int.ediv_lt_of_lt_mul (by omega)
      omega
    omega
end Go.Proofs.Ytnfolhfnkbidgaa
