import Derived.Test.YtnfolhfnkbidgaaPlMulDiv
import Derived.Test.YtnfolhfnkbidgaaPx15
import Derived.Test.YtnfolhfnkbidgaaPx16
import Derived.Test.YtnfolhfnkbidgaaPx17
import Derived.Test.YtnfolhfnkbidgaaPlTurns
namespace Go.Proofs.Ytnfolhfnkbidgaa.Ref
open Go.RowKit Go.Proofs.Ytnfolhfnkbidgaa Print Go.Proofs.YtnfolhfnkbidgaaW.PrintWords Go.Proofs.YtnfolhfnkbidgaaW.PrintMore
theorem r_Mul.j0_eq (k : Nat) (x8 : Int) (x9 : Int) (x28 : Bool) (x595000 : Int) (x595001 : Int) (x595002 : ByteArray) (x596000 : Int) (x596001 : Int) (x596002 : ByteArray) : marqueeref02_Mul.j0 (k + 1) x8 x9 x28 x595000 x595001 x595002 x596000 x596001 x596002 = if x28 = true then (marqueeref02_Mul.j1 k 3 x9 x595000 x595001 x595002 x596000 x596001 x596002) else (marqueeref02_Mul.j1 k x8 x9 x595000 x595001 x595002 x596000 x596001 x596002) := by
  rw [marqueeref02_Mul.j0]
theorem r_Mul.j1_eq (k : Nat) (x8 : Int) (x9 : Int) (x595000 : Int) (x595001 : Int) (x595002 : ByteArray) (x596000 : Int) (x596001 : Int) (x596002 : ByteArray) : marqueeref02_Mul.j1 (k + 1) x8 x9 x595000 x595001 x595002 x596000 x596001 x596002 = if x595000 = 3 then (marqueeref02_Mul.j2 k x8 x9 (x596000 == 3) x595000 x595001 x595002 x596000 x596001 x596002) else (marqueeref02_Mul.j2 k x8 x9 false x595000 x595001 x595002 x596000 x596001 x596002) := by
  rw [marqueeref02_Mul.j1]
theorem r_Mul.j2_eq (k : Nat) (x8 : Int) (x9 : Int) (x36 : Bool) (x595000 : Int) (x595001 : Int) (x595002 : ByteArray) (x596000 : Int) (x596001 : Int) (x596002 : ByteArray) : marqueeref02_Mul.j2 (k + 1) x8 x9 x36 x595000 x595001 x595002 x596000 x596001 x596002 = if x36 = true then ((marqueeref02_mulDiv.f k x595001 x596001 10000).bind fun bt599 => ((marqueeref02_of.f x8 bt599.1 bt599.2).bind fun bt601 => (some (bt601.1, bt601.2.1, bt601.2.2.1, bt601.2.2.2)))) else ((marqueeref02_mulDiv.f k x595001 x596001 x9).bind fun bt605 => ((marqueeref02_of.f x8 bt605.1 bt605.2).bind fun bt607 => (some (bt607.1, bt607.2.1, bt607.2.2.1, bt607.2.2.2)))) := by
  rw [marqueeref02_Mul.j2]
theorem r_Div.j0_eq (k : Nat) (x31 : Bool) (x612000 : Int) (x612001 : Int) (x612002 : ByteArray) (x613000 : Int) (x613001 : Int) (x613002 : ByteArray) : marqueeref02_Div.j0 (k + 1) x31 x612000 x612001 x612002 x613000 x613001 x613002 = if x31 = true then ((marqueeref02_mulDiv.f k x612001 1 x613001).bind fun bt616 => ((marqueeref02_of.f 2 bt616.1 bt616.2).bind fun bt618 => (some (bt618.1, bt618.2.1, bt618.2.2.1, bt618.2.2.2)))) else ((marqueeref02_decs.f x612000 x612001 x612002 x613000 x613001 x613002).bind fun bt622 => (if bt622.2.2 = true then ((marqueeref02_mulDiv.f k bt622.1 10000 bt622.2.1).bind fun bt625 => ((marqueeref02_of.f 3 bt625.1 bt625.2).bind fun bt627 => (some (bt627.1, bt627.2.1, bt627.2.2.1, bt627.2.2.2)))) else (some (0, 0, (⟨#[]⟩ : ByteArray), 20)))) := by
  rw [marqueeref02_Div.j0]
theorem r_Mod.j0_eq (k : Nat) (x8 : Int) (x9 : Int) (x10 : Int) (x11 : Bool) (x33 : Bool) (x632000 : Int) (x632001 : Int) (x632002 : ByteArray) (x633000 : Int) (x633001 : Int) (x633002 : ByteArray) : marqueeref02_Mod.j0 (k + 1) x8 x9 x10 x11 x33 x632000 x632001 x632002 x633000 x633001 x633002 = if x33 = true then ((marqueeref02_decs.f x632000 x632001 x632002 x633000 x633001 x633002).bind fun bt636 => (marqueeref02_Mod.j1 k 3 bt636.1 bt636.2.1 bt636.2.2)) else (marqueeref02_Mod.j1 k x8 x9 x10 x11) := by
  rw [marqueeref02_Mod.j0]
theorem r_Mod.j1_eq (k : Nat) (x8 : Int) (x9 : Int) (x10 : Int) (x11 : Bool) : marqueeref02_Mod.j1 (k + 1) x8 x9 x10 x11 = if x11 = true then (if x10 = (-1) then ((marqueeref02_of.f x8 0 true).bind fun bt639 => (some (bt639.1, bt639.2.1, bt639.2.2.1, bt639.2.2.2))) else (if x10 = 0 then (none) else ((marqueeref02_of.f x8 (Int.tmod x9 x10) true).bind fun bt643 => (some (bt643.1, bt643.2.1, bt643.2.2.1, bt643.2.2.2))))) else (some (0, 0, (⟨#[]⟩ : ByteArray), 20)) := by
  rw [marqueeref02_Mod.j1]
theorem r_ArithAll.l0_eq (k : Nat) (x5 : Int) (x670000 : Int) (x670001 : Int) (x670002 : ByteArray) (x671000 : Int) (x671001 : Int) (x671002 : ByteArray) : marqueelaw02_ArithAll.l0 (k + 1) x5 x670000 x670001 x670002 x671000 x671001 x671002 = if x5 < 8 then (if x5 = 0 then ((arith_Neg.f k x670000 x670001 x670002).bind fun bt674 => ((marqueeref02_Neg.f k x670000 x670001 x670002).bind fun bt678 => (if (!(bt674.1 == bt678.1) || (!(bt674.2.1 == bt678.2.1) || (!(bt674.2.2.1.toList == bt678.2.2.1.toList)))) = true then (none) else (if bt674.2.2.2 = bt678.2.2.2 then (marqueelaw02_ArithAll.l0 k (wrap64 (x5 + 1)) x670000 x670001 x670002 x671000 x671001 x671002) else (none))))) else (if x5 = 1 then ((arith_Add.f k x670000 x670001 x670002 x671000 x671001 x671002).bind fun bt682 => ((marqueeref02_Add.f k x670000 x670001 x670002 x671000 x671001 x671002).bind fun bt686 => (if (!(bt682.1 == bt686.1) || (!(bt682.2.1 == bt686.2.1) || (!(bt682.2.2.1.toList == bt686.2.2.1.toList)))) = true then (none) else (if bt682.2.2.2 = bt686.2.2.2 then (marqueelaw02_ArithAll.l0 k (wrap64 (x5 + 1)) x670000 x670001 x670002 x671000 x671001 x671002) else (none))))) else (if x5 = 2 then ((arith_Sub.f k x670000 x670001 x670002 x671000 x671001 x671002).bind fun bt690 => ((marqueeref02_Sub.f k x670000 x670001 x670002 x671000 x671001 x671002).bind fun bt694 => (if (!(bt690.1 == bt694.1) || (!(bt690.2.1 == bt694.2.1) || (!(bt690.2.2.1.toList == bt694.2.2.1.toList)))) = true then (none) else (if bt690.2.2.2 = bt694.2.2.2 then (marqueelaw02_ArithAll.l0 k (wrap64 (x5 + 1)) x670000 x670001 x670002 x671000 x671001 x671002) else (none))))) else (if x5 = 3 then ((arith_Mul.f k x670000 x670001 x670002 x671000 x671001 x671002).bind fun bt698 => ((marqueeref02_Mul.f k x670000 x670001 x670002 x671000 x671001 x671002).bind fun bt702 => (if (!(bt698.1 == bt702.1) || (!(bt698.2.1 == bt702.2.1) || (!(bt698.2.2.1.toList == bt702.2.2.1.toList)))) = true then (none) else (if bt698.2.2.2 = bt702.2.2.2 then (marqueelaw02_ArithAll.l0 k (wrap64 (x5 + 1)) x670000 x670001 x670002 x671000 x671001 x671002) else (none))))) else (if x5 = 4 then ((arith_Div.f k x670000 x670001 x670002 x671000 x671001 x671002).bind fun bt706 => ((marqueeref02_Div.f k x670000 x670001 x670002 x671000 x671001 x671002).bind fun bt710 => (if (!(bt706.1 == bt710.1) || (!(bt706.2.1 == bt710.2.1) || (!(bt706.2.2.1.toList == bt710.2.2.1.toList)))) = true then (none) else (if bt706.2.2.2 = bt710.2.2.2 then (marqueelaw02_ArithAll.l0 k (wrap64 (x5 + 1)) x670000 x670001 x670002 x671000 x671001 x671002) else (none))))) else (if x5 = 5 then ((arith_Mod.f k x670000 x670001 x670002 x671000 x671001 x671002).bind fun bt714 => ((marqueeref02_Mod.f k x670000 x670001 x670002 x671000 x671001 x671002).bind fun bt718 => (if (!(bt714.1 == bt718.1) || (!(bt714.2.1 == bt718.2.1) || (!(bt714.2.2.1.toList == bt718.2.2.1.toList)))) = true then (none) else (if bt714.2.2.2 = bt718.2.2.2 then (marqueelaw02_ArithAll.l0 k (wrap64 (x5 + 1)) x670000 x670001 x670002 x671000 x671001 x671002) else (none))))) else (if x5 = 6 then ((arith_Dec.f k x670000 x670001 x670002).bind fun bt722 => ((marqueeref02_Dec.f k x670000 x670001 x670002).bind fun bt726 => (if (!(bt722.1 == bt726.1) || (!(bt722.2.1 == bt726.2.1) || (!(bt722.2.2.1.toList == bt726.2.2.1.toList)))) = true then (none) else (if bt722.2.2.2 = bt726.2.2.2 then (marqueelaw02_ArithAll.l0 k (wrap64 (x5 + 1)) x670000 x670001 x670002 x671000 x671001 x671002) else (none))))) else (if x5 = 7 then ((arith_Int.f k x670000 x670001 x670002).bind fun bt730 => ((marqueeref02_Int.f k x670000 x670001 x670002).bind fun bt734 => (if (!(bt730.1 == bt734.1) || (!(bt730.2.1 == bt734.2.1) || (!(bt730.2.2.1.toList == bt734.2.2.1.toList)))) = true then (none) else (if bt730.2.2.2 = bt734.2.2.2 then (marqueelaw02_ArithAll.l0 k (wrap64 (x5 + 1)) x670000 x670001 x670002 x671000 x671001 x671002) else (none))))) else (if 0 = 0 then (marqueelaw02_ArithAll.l0 k (wrap64 (x5 + 1)) x670000 x670001 x670002 x671000 x671001 x671002) else (none)))))))))) else ((marqueelaw02_sure.f k).bind fun t671 => (some t671)) := by
  rw [marqueelaw02_ArithAll.l0]
/-! ### The 128 rounds, and what they leave -/
theorem words (x0 x1 y0 y1 : Nat) (h0 : x0 < 4294967296) (h1 : x1 ≤ 2147483648) (h2 : y0 < 4294967296) (h3 : y1 ≤ 2147483648) :
    let c := x0 * y0
    let d := x0 * y1
    let e := x1 * y0
    let f := x1 * y1
    let mid := c / 4294967296 + d % 4294967296 + e % 4294967296
    c < 18446744073709551616 ∧ d < 18446744073709551616 ∧ e < 18446744073709551616 ∧ f < 18446744073709551616 ∧ mid < 18446744073709551616 ∧
      f + d / 4294967296 + e / 4294967296 + mid / 4294967296 < 18446744073709551616 ∧
      (f + d / 4294967296 + e / 4294967296 + mid / 4294967296) * 18446744073709551616 + (mid % 4294967296 * 4294967296 + c % 4294967296) = (x1 * 4294967296 + x0) * (y1 * 4294967296 + y0) := by
  intro c d e f mid
  have hc : c ≤ 4294967295 * 4294967295 := Nat.mul_le_mul (by omega) (by omega)
  have hd : d ≤ 4294967295 * 2147483648 := Nat.mul_le_mul (by omega) (by omega)
  have he : e ≤ 2147483648 * 4294967295 := Nat.mul_le_mul (by omega) (by omega)
  have hf : f ≤ 2147483648 * 2147483648 := Nat.mul_le_mul (by omega) (by omega)
  have hP : (x1 * 4294967296 + x0) * (y1 * 4294967296 + y0) = f * 18446744073709551616 + (d + e) * 4294967296 + c := by
    have : (x1 * 4294967296 + x0) * (y1 * 4294967296 + y0) = x1 * y1 * (4294967296 * 4294967296) + (x0 * y1 + x1 * y0) * 4294967296 + x0 * y0 := by
      rw [Nat.add_mul, Nat.mul_add, Nat.mul_add, Nat.add_mul (x0 * y1), Nat.mul_mul_mul_comm, Nat.mul_right_comm x1 4294967296 y0, ← Nat.mul_assoc x0 y1 4294967296]
      omega
    rw [this]
  have hm : mid = c / 4294967296 + d % 4294967296 + e % 4294967296 := rfl
  rw [hP]
  clear hP
  generalize mid = M at hm ⊢
  generalize c = c at *
  generalize d = d at *
  generalize e = e at *
  generalize f = f at *
  refine ⟨by omega, by omega, by omega, by omega, by omega, by omega, by omega⟩
theorem size_eq' (a : Int) (h : i64 a) : marqueeref02_size.f a = some (a.natAbs : Int) := by
  unfold marqueeref02_size.f
  unfold i64 at h
  by_cases c : a < 0
  · rw [if_pos c]
    congr 1
    rw [uw, uw]
    omega
  · rw [if_neg c]
    congr 1
    rw [uw]
    omega
theorem and32n (n : Nat) (h : n < 18446744073709551616) : Go.bits .and .u64 (n : Int) 4294967295 = ((n % 4294967296 : Nat) : Int) := by
  rw [and32 _ (by omega) (by omega)]; omega
/-- The two words of a product, as the text reckons them. -/
theorem start (X Y : Nat) (hx : X ≤ 9223372036854775808) (hy : Y ≤ 9223372036854775808) :
    ∃ lo hi : Nat, lo < 18446744073709551616 ∧ hi < 18446744073709551616 ∧ hi * 18446744073709551616 + lo = X * Y ∧
      (Go.bits .or .u64 (IntKind.u64.wrap ((IntKind.u64.wrap ((IntKind.u64.wrap (((IntKind.u64.wrap ((Go.bits .and .u64 (X : Int) 4294967295) * (Go.bits .and .u64 (Y : Int) 4294967295))) / 4294967296) + (Go.bits .and .u64 (IntKind.u64.wrap ((Go.bits .and .u64 (X : Int) 4294967295) * ((Y : Int) / 4294967296))) 4294967295))) + (Go.bits .and .u64 (IntKind.u64.wrap (((X : Int) / 4294967296) * (Go.bits .and .u64 (Y : Int) 4294967295))) 4294967295))) * 4294967296)) (Go.bits .and .u64 (IntKind.u64.wrap ((Go.bits .and .u64 (X : Int) 4294967295) * (Go.bits .and .u64 (Y : Int) 4294967295))) 4294967295)) = (lo : Int) ∧
      (IntKind.u64.wrap ((IntKind.u64.wrap ((IntKind.u64.wrap ((IntKind.u64.wrap (((X : Int) / 4294967296) * ((Y : Int) / 4294967296))) + ((IntKind.u64.wrap ((Go.bits .and .u64 (X : Int) 4294967295) * ((Y : Int) / 4294967296))) / 4294967296))) + ((IntKind.u64.wrap (((X : Int) / 4294967296) * (Go.bits .and .u64 (Y : Int) 4294967295))) / 4294967296))) + ((IntKind.u64.wrap ((IntKind.u64.wrap (((IntKind.u64.wrap ((Go.bits .and .u64 (X : Int) 4294967295) * (Go.bits .and .u64 (Y : Int) 4294967295))) / 4294967296) + (Go.bits .and .u64 (IntKind.u64.wrap ((Go.bits .and .u64 (X : Int) 4294967295) * ((Y : Int) / 4294967296))) 4294967295))) + (Go.bits .and .u64 (IntKind.u64.wrap (((X : Int) / 4294967296) * (Go.bits .and .u64 (Y : Int) 4294967295))) 4294967295))) / 4294967296))) = (hi : Int) := by
  have hX : X = X / 4294967296 * 4294967296 + X % 4294967296 := by omega
  have hY : Y = Y / 4294967296 * 4294967296 + Y % 4294967296 := by omega
  have eX : (X : Int) / 4294967296 = ((X / 4294967296 : Nat) : Int) := by omega
  have eY : (Y : Int) / 4294967296 = ((Y / 4294967296 : Nat) : Int) := by omega
  have w := words (X % 4294967296) (X / 4294967296) (Y % 4294967296) (Y / 4294967296) (by omega) (by omega) (by omega) (by omega)
  simp only [← hX, ← hY] at w
  rw [and32n X (by omega), and32n Y (by omega), eX, eY]
  generalize X % 4294967296 = x0 at w ⊢
  generalize X / 4294967296 = x1 at w ⊢
  generalize Y % 4294967296 = y0 at w ⊢
  generalize Y / 4294967296 = y1 at w ⊢
  generalize X * Y = P at w ⊢
  clear hX hY eX eY hx hy
  simp only [← Int.natCast_mul]
  generalize x0 * y0 = c at w ⊢
  generalize x0 * y1 = d at w ⊢
  generalize x1 * y0 = e at w ⊢
  generalize x1 * y1 = f at w ⊢
  obtain ⟨h1, h2, h3, h4, h5, h6, h7⟩ := w
  rw [uw_nat c h1, uw_nat d h2, uw_nat e h3, uw_nat f h4, and32n c h1, and32n d h2, and32n e h3]
  have a1 : IntKind.u64.wrap ((c : Int) / 4294967296 + ((d % 4294967296 : Nat) : Int)) = ((c / 4294967296 + d % 4294967296 : Nat) : Int) := by rw [uw]; omega
  have a2 : IntKind.u64.wrap (((c / 4294967296 + d % 4294967296 : Nat) : Int) + ((e % 4294967296 : Nat) : Int)) = ((c / 4294967296 + d % 4294967296 + e % 4294967296 : Nat) : Int) := by rw [uw]; omega
  rw [a1, a2]
  generalize c / 4294967296 + d % 4294967296 + e % 4294967296 = m at h5 h6 h7 ⊢
  have a3 : IntKind.u64.wrap ((m : Int) * 4294967296) = ((m % 4294967296 * 2 ^ 32 : Nat) : Int) := by rw [uw]; omega
  have a4 : IntKind.u64.wrap ((f : Int) + (d : Int) / 4294967296) = ((f + d / 4294967296 : Nat) : Int) := by rw [uw]; omega
  have a5 : IntKind.u64.wrap (((f + d / 4294967296 : Nat) : Int) + (e : Int) / 4294967296) = ((f + d / 4294967296 + e / 4294967296 : Nat) : Int) := by rw [uw]; omega
  have a6 : IntKind.u64.wrap (((f + d / 4294967296 + e / 4294967296 : Nat) : Int) + (m : Int) / 4294967296) = ((f + d / 4294967296 + e / 4294967296 + m / 4294967296 : Nat) : Int) := by rw [uw]; omega
  rw [a3, a4, a5, a6, or_low (m % 4294967296) (c % 4294967296) 32 (by omega) (by omega)]
  exact ⟨_, _, by omega, h6, h7, rfl, rfl⟩
theorem Ev.to {α : Type} {g : Nat → Option α} {r r' : α} (h : Ev g r) (e : r = r') : Ev g r' := e ▸ h
/-- What mulDiv answers. -/
def rmd (a b d : Int) : Int × Bool :=
  if 18446744073709551616 ≤ a.natAbs * b.natAbs / d.natAbs then (0, false)
  else if 9223372036854775808 < a.natAbs * b.natAbs / d.natAbs then (0, false)
  else if a.natAbs * b.natAbs / d.natAbs = 9223372036854775808 ∧ (((decide (a < 0)) != (decide (b < 0))) != (decide (d < 0))) = false then (0, false)
  else if (((decide (a < 0)) != (decide (b < 0))) != (decide (d < 0))) = true then (wrap64 (IntKind.u64.wrap (-((a.natAbs * b.natAbs / d.natAbs : Nat) : Int))), true)
  else (wrap64 ((a.natAbs * b.natAbs / d.natAbs : Nat) : Int), true)
theorem j1_ev (q : Int) (s o : Bool) : Ev (fun k => marqueeref02_mulDiv.j1 k q s o) (if o = true then (0, false) else if s = true then (wrap64 (IntKind.u64.wrap (-q)), true) else (wrap64 q, true)) := by
  refine Ev.stops (fun k => ?_)
  rw [r_mulDiv.j1_eq]
  cases o <;> cases s <;> rfl
theorem mulDiv_ev (a b d : Int) (ha : i64 a) (hb : i64 b) (hd : i64 d) (hd0 : d ≠ 0) : Ev (fun k => marqueeref02_mulDiv.f k a b d) (rmd a b d) := by
  have hA : a.natAbs ≤ 9223372036854775808 := by unfold i64 at ha; omega
  have hB : b.natAbs ≤ 9223372036854775808 := by unfold i64 at hb; omega
  have hD : d.natAbs ≤ 9223372036854775808 := by unfold i64 at hd; omega
  obtain ⟨lo, hi, h1, h2, h3, h4, h5⟩ := start a.natAbs b.natAbs hA hB
  refine Ev.congr (f := fun k => marqueeref02_mulDiv.l0 k a b d (d.natAbs : Int) (lo : Int) (hi : Int) 0 0 false 127) (fun k => ?_) ?_
  · unfold marqueeref02_mulDiv.f
    rw [size_eq' a ha, size_eq' b hb, size_eq' d hd, Option.bind_some, Option.bind_some, Option.bind_some, h4, h5]
  have hP : a.natAbs * b.natAbs = hi * 18446744073709551616 + lo := h3.symm
  have hP' : hi * 18446744073709551616 + lo < 2 ^ 128 := by omega
  have key := loop a b d d.natAbs lo hi h2 h1 (by omega) hD (rmd a b d) (hi * 18446744073709551616 + lo) rfl ?_ 128 (Nat.le_refl _)
  · rw [Nat.div_eq_of_lt hP', Nat.zero_mod, Nat.zero_div, Nat.zero_mod] at key
    exact key
  · unfold rmd
    rw [hP]
    generalize hi * 18446744073709551616 + lo = P
    generalize d.natAbs = z
    generalize P % z = r
    generalize P / z = Q
    by_cases c : 18446744073709551616 ≤ Q
    · rw [if_pos c, decide_eq_true c]
      exact Ev.step (fun k => by rw [r_mulDiv.l0_eq, if_neg (by decide), if_pos rfl]) (j1_ev _ _ true)
    · rw [if_neg c, decide_eq_false c, Nat.mod_eq_of_lt (by omega)]
      by_cases c2 : 9223372036854775808 < Q
      · rw [if_pos c2]
        exact Ev.step (fun k => by rw [r_mulDiv.l0_eq, if_neg (by decide), if_neg (by decide), if_pos (by omega)]) (j1_ev _ _ true)
      · rw [if_neg c2]
        by_cases c3 : Q = 9223372036854775808
        · refine Ev.step (fun k => by rw [r_mulDiv.l0_eq, if_neg (by decide), if_neg (by decide), if_neg (by omega), if_pos (by omega)]) (Ev.to (j1_ev _ _ _) ?_)
          generalize (((decide (a < 0)) != (decide (b < 0))) != (decide (d < 0))) = s
          cases s
          · rw [if_pos (by rfl), if_pos ⟨c3, rfl⟩]
          · rw [if_neg (by decide), if_pos rfl, if_neg (fun h => by cases h.2)]
        · refine Ev.step (fun k => by rw [r_mulDiv.l0_eq, if_neg (by decide), if_neg (by decide), if_neg (by omega), if_neg (by omega)]) (Ev.to (j1_ev _ _ _) ?_)
          generalize (((decide (a < 0)) != (decide (b < 0))) != (decide (d < 0))) = s
          rw [if_neg (show ¬ (false = true) by decide), if_neg (show ¬ (Q = 9223372036854775808 ∧ s = false) from fun h => c3 h.1)]
theorem md_like (a b d : Int) (hd : d ≠ 0) : like (rmd a b d) (md a b d) := by
  unfold rmd md
  generalize (((decide (a < 0)) != (decide (b < 0))) != (decide (d < 0))) = s
  generalize a.natAbs * b.natAbs = P
  have hz : 0 < d.natAbs := by omega
  generalize d.natAbs = z at hz ⊢
  have e : 18446744073709551616 ≤ P / z ↔ z ≤ P / 18446744073709551616 := by
    rw [Nat.le_div_iff_mul_le hz, Nat.le_div_iff_mul_le (by omega), Nat.mul_comm]
  by_cases c : 18446744073709551616 ≤ P / z
  · rw [if_pos c, if_pos (e.1 c)]
    exact ⟨rfl, fun h => by cases h⟩
  rw [if_neg c, if_neg (fun h => c (e.2 h))]
  generalize P / z = Q at c ⊢
  by_cases c0 : Q = 0
  · subst c0
    rw [if_neg (by omega), if_neg (fun h => absurd h.1 (by omega)), if_pos rfl]
    have w0 : wrap64 ((0 : Nat) : Int) = 0 := by unfold wrap64; rfl
    have w1 : wrap64 (IntKind.u64.wrap (-((0 : Nat) : Int))) = 0 := by rw [show (-((0 : Nat) : Int)) = 0 from rfl, show IntKind.u64.wrap 0 = 0 from by rw [uw]; rfl]; exact w0
    cases s
    · rw [if_neg (by decide), w0]; exact ⟨rfl, fun _ => rfl⟩
    · rw [if_pos rfl, w1]; exact ⟨rfl, fun _ => rfl⟩
  rw [if_neg c0]
  by_cases c1 : 9223372036854775808 < Q
  · rw [if_pos c1]
    have e1 : decide ((Q : Int) < 9223372036854775808) = false := decide_eq_false (by omega)
    have e2 : decide ((Q : Int) ≤ 9223372036854775808) = false := decide_eq_false (by omega)
    cases s
    · rw [if_neg (by decide), e1]; exact ⟨rfl, fun h => by cases h⟩
    · rw [if_pos rfl, e2]; exact ⟨rfl, fun h => by cases h⟩
  rw [if_neg c1]
  have e2 : decide ((Q : Int) ≤ 9223372036854775808) = true := decide_eq_true (by omega)
  cases s
  · by_cases c2 : Q = 9223372036854775808
    · have e1 : decide ((Q : Int) < 9223372036854775808) = false := decide_eq_false (by omega)
      rw [if_pos ⟨c2, rfl⟩, if_neg (by decide), e1]; exact ⟨rfl, fun h => by cases h⟩
    · have e1 : decide ((Q : Int) < 9223372036854775808) = true := decide_eq_true (by omega)
      rw [if_neg (fun h => c2 h.1), if_neg (by decide), if_neg (by decide), e1]; exact ⟨rfl, fun _ => rfl⟩
  · rw [if_neg (fun h => by cases h.2), if_pos rfl, if_pos rfl, e2]; exact ⟨rfl, fun _ => rfl⟩
/-! ### The document's answers -/
theorem ask_two {ka kb : Int} (c : ¬ ((ask ka kb).2 ≠ 0 ∨ (ask ka kb).1 = true)) : (ka = 2 ∨ ka = 3) ∧ (kb = 2 ∨ kb = 3) := by
  unfold ask at c
  by_cases h : num ka = false ∧ ka ≠ 0 ∨ num kb = false ∧ kb ≠ 0
  · rw [if_pos h] at c
    exact absurd (.inl (by decide)) c
  · rw [if_neg h] at c
    have h1 : ¬ (ka == 0 || kb == 0) = true := fun e => c (.inr e)
    rw [Bool.or_eq_true, beq_iff_eq, beq_iff_eq] at h1
    have k1 : num ka = true := by
      cases e : num ka
      · exact absurd (.inl ⟨e, fun z => h1 (.inl z)⟩) h
      · rfl
    have k2 : num kb = true := by
      cases e : num kb
      · exact absurd (.inr ⟨e, fun z => h1 (.inr z)⟩) h
      · rfl
    unfold num at k1 k2
    simpa using And.intro k1 k2
theorem first_no {ka kb nb : Int} (c : (ask ka kb).2 ≠ 0 ∨ (ask ka kb).1 = true) (d : Bool) : firstV ka kb nb d = ((ask ka kb).2, true) := if_pos c
theorem first_zero {ka kb nb : Int} (c : ¬ ((ask ka kb).2 ≠ 0 ∨ (ask ka kb).1 = true)) (h : nb = 0) : firstV ka kb nb true = (21, true) := by
  unfold firstV
  rw [if_neg c, if_pos ⟨rfl, h⟩]
theorem first_go {ka kb nb : Int} (c : ¬ ((ask ka kb).2 ≠ 0 ∨ (ask ka kb).1 = true)) {d : Bool} (h : ¬ (d = true ∧ nb = 0)) : firstV ka kb nb d = (0, false) := by
  unfold firstV
  rw [if_neg c, if_neg h]
/-- The opposite. -/
def negV (k n : Int) : Val := if (ask k k).2 ≠ 0 ∨ (ask k k).1 = true then (0, 0, E, (ask k k).2) else ofV k (wrap64 (-n), decide (n ≠ -9223372036854775808))
theorem neg_ev (k n : Int) (t : ByteArray) (hn : i64 n) : Ev (fun q => arith_Neg.f q k n t) (negV k n) := by
  refine Ev.congr (fun q => by unfold arith_Neg.f; rfl) (Ev.bind (asked1_ev ⟨k, n, t⟩) ?_)
  unfold negV
  show Ev (fun _ => if (ask k k).2 = 0 then if (ask k k).1 = true then some (0, 0, E, (ask k k).2) else _ else _) _
  generalize ask k k = q
  obtain ⟨qb, qe⟩ := q
  by_cases c : qe ≠ 0 ∨ qb = true
  · rw [if_pos c]
    refine Ev.congr (fun _ => ?_) (Ev.now _)
    by_cases c0 : qe = 0
    · rw [if_pos c0, if_pos (c.elim (fun h => absurd c0 h) id)]
    · rw [if_neg c0]; rfl
  · rw [if_neg c]
    refine Ev.congr (fun _ => ?_) (Ev.now _)
    rw [if_pos (Classical.byContradiction (fun h => c (.inl h))), if_neg (fun h => c (.inr h))]
    have hw : Aside0 ((n = wrap64 (-n)) ↔ (n = 0 ∨ n = -9223372036854775808)) := ⟨by unfold i64 at hn; unfold wrap64; omega⟩
    by_cases e : n = wrap64 (-n)
    · rw [if_pos e]
      by_cases z : n = 0
      · rw [show (n == 0) = true by simpa using z, show decide (n ≠ -9223372036854775808) = true from decide_eq_true (by omega), of_eq k (wrap64 (-n), true)]; rfl
      · have := hw.out.1 e
        rw [show (n == 0) = false by simpa using z, show decide (n ≠ -9223372036854775808) = false from decide_eq_false (by omega), of_eq k (wrap64 (-n), false)]; rfl
    · rw [if_neg e]
      have h1 : ¬ (n = 0 ∨ n = -9223372036854775808) := fun h => e (hw.out.2 h)
      rw [show decide (n ≠ -9223372036854775808) = true from decide_eq_true (fun h => h1 (.inr h)), of_eq k (wrap64 (-n), true)]; rfl
theorem rneg_ev (k n : Int) (t : ByteArray) : Ev (fun q => marqueeref02_Neg.f q k n t) (negV k n) := by
  refine Ev.congr (fun q => by unfold marqueeref02_Neg.f; rfl) (Ev.bind (first_ev k n t k n t false) ?_)
  unfold negV
  by_cases c : (ask k k).2 ≠ 0 ∨ (ask k k).1 = true
  · rw [if_pos c, first_no c]
    exact Ev.congr (fun _ => if_pos rfl) (Ev.now _)
  · rw [if_neg c, first_go c (fun h => by cases h.1)]
    refine Ev.congr (fun _ => ?_) (Ev.now _)
    rw [if_neg (by decide), show (n != -9223372036854775808) = decide (n ≠ -9223372036854775808) by by_cases h : n = -9223372036854775808 <;> simp [h], of_eq' k (wrap64 (-n), decide (n ≠ -9223372036854775808))]; rfl
theorem decs_like (ka na kb nb : Int) : ((rdec ka na).2 && (rdec kb nb).2) = (decsV ka na kb nb).2.2 ∧ ((decsV ka na kb nb).2.2 = true → (rdec ka na).1 = (decV ka na).1 ∧ (rdec kb nb).1 = (decV kb nb).1) := by
  have h1 := dec_like ka na
  have h2 := dec_like kb nb
  unfold decsV
  refine ⟨by rw [h1.1, h2.1], fun h => ?_⟩
  rw [Bool.and_eq_true] at h
  exact ⟨h1.2 h.1, h2.2 h.2⟩
theorem and_two (ka kb : Int) : (if ka = 2 then kb == 2 else false) = decide (ka = 2 ∧ kb = 2) := by
  by_cases h : ka = 2
  · rw [if_pos h]
    by_cases h' : kb = 2
    · rw [decide_eq_true ⟨h, h'⟩]; simpa using h'
    · rw [decide_eq_false (fun x => h' x.2)]; simpa using h'
  · rw [if_neg h, decide_eq_false (fun x => h x.1)]
theorem radd_ev (ka na : Int) (ta : ByteArray) (kb nb : Int) (tb : ByteArray) (ha : i64 na) (hb : i64 nb) : Ev (fun k => marqueeref02_Add.f k ka na ta kb nb tb) (twoV addV ka na kb nb) := by
  refine Ev.congr (fun q => by unfold marqueeref02_Add.f; rfl) (Ev.bind (first_ev ka na ta kb nb tb false) ?_)
  unfold twoV
  by_cases c : (ask ka kb).2 ≠ 0 ∨ (ask ka kb).1 = true
  · rw [if_pos c, first_no c]
    exact Ev.congr (fun _ => if_pos rfl) (Ev.now _)
  · rw [if_neg c, first_go c (fun h => by cases h.1)]
    refine Ev.congr (f := fun k => marqueeref02_Add.j0 k (decide (ka = 2 ∧ kb = 2)) ka na ta kb nb tb) (fun k => ?_) (Ev.stops (fun k => ?_))
    · rw [if_neg (by decide), ← and_two]
      split <;> rfl
    · rw [r_Add.j0_eq]
      by_cases c2 : ka = 2 ∧ kb = 2
      · rw [if_pos c2, decide_eq_true c2, if_pos rfl, sum_eq _ _ ha hb, Option.bind_some, of_eq', Option.bind_some]
      · obtain ⟨l1, l2⟩ := decs_like ka na kb nb
        rw [if_neg c2, decide_eq_false c2, if_neg (by decide), decs_eq, Option.bind_some, sum_eq _ _ (rdec_i64 _ _ ha) (rdec_i64 _ _ hb), Option.bind_some]
        show (if ((rdec ka na).2 && (rdec kb nb).2) = true then _ else _) = _
        rw [l1]
        by_cases c3 : (decsV ka na kb nb).2.2 = true
        · obtain ⟨e1, e2⟩ := l2 c3
          rw [if_pos c3, if_pos c3, ← e1, ← e2, of_eq', Option.bind_some]
        · rw [if_neg c3, if_neg c3, of_bad, Option.bind_some]
theorem rsub_ev (ka na : Int) (ta : ByteArray) (kb nb : Int) (tb : ByteArray) (ha : i64 na) (hb : i64 nb) : Ev (fun k => marqueeref02_Sub.f k ka na ta kb nb tb) (twoV subV ka na kb nb) := by
  refine Ev.congr (fun q => by unfold marqueeref02_Sub.f; rfl) (Ev.bind (first_ev ka na ta kb nb tb false) ?_)
  unfold twoV
  by_cases c : (ask ka kb).2 ≠ 0 ∨ (ask ka kb).1 = true
  · rw [if_pos c, first_no c]
    exact Ev.congr (fun _ => if_pos rfl) (Ev.now _)
  · rw [if_neg c, first_go c (fun h => by cases h.1)]
    refine Ev.congr (f := fun k => marqueeref02_Sub.j0 k (decide (ka = 2 ∧ kb = 2)) ka na ta kb nb tb) (fun k => ?_) (Ev.stops (fun k => ?_))
    · rw [if_neg (by decide), ← and_two]
      split <;> rfl
    · rw [r_Sub.j0_eq]
      by_cases c2 : ka = 2 ∧ kb = 2
      · rw [if_pos c2, decide_eq_true c2, if_pos rfl, difference_eq _ _ ha hb, Option.bind_some, of_eq', Option.bind_some]
      · obtain ⟨l1, l2⟩ := decs_like ka na kb nb
        rw [if_neg c2, decide_eq_false c2, if_neg (by decide), decs_eq, Option.bind_some, difference_eq _ _ (rdec_i64 _ _ ha) (rdec_i64 _ _ hb), Option.bind_some]
        show (if ((rdec ka na).2 && (rdec kb nb).2) = true then _ else _) = _
        rw [l1]
        by_cases c3 : (decsV ka na kb nb).2.2 = true
        · obtain ⟨e1, e2⟩ := l2 c3
          rw [if_pos c3, if_pos c3, ← e1, ← e2, of_eq', Option.bind_some]
        · rw [if_neg c3, if_neg c3, of_bad, Option.bind_some]
theorem rmul_ev (ka na : Int) (ta : ByteArray) (kb nb : Int) (tb : ByteArray) (ha : i64 na) (hb : i64 nb) : Ev (fun k => marqueeref02_Mul.f k ka na ta kb nb tb) (mulV ka na kb nb) := by
  refine Ev.congr (fun q => by unfold marqueeref02_Mul.f; rfl) (Ev.bind (first_ev ka na ta kb nb tb false) ?_)
  unfold mulV
  by_cases c : (ask ka kb).2 ≠ 0 ∨ (ask ka kb).1 = true
  · rw [if_pos c, first_no c]
    exact Ev.congr (fun _ => if_pos rfl) (Ev.now _)
  · obtain ⟨k1, k2⟩ := ask_two c
    rw [if_neg c, first_go c (fun h => by cases h.1)]
    have j2 : ∀ kd d : Int, d = (if ka = 3 ∧ kb = 3 then 10000 else 1) → kd = mx ka kb → Ev (fun k => marqueeref02_Mul.j1 k kd 1 ka na ta kb nb tb) (ofV (mx ka kb) (md na nb d)) := fun kd d hd hk => by
      subst hk
      rw [← like_of (md_like na nb d (by rw [hd]; split <;> decide)) (mx ka kb)]
      refine Ev.step (f := fun k => marqueeref02_Mul.j2 k (mx ka kb) 1 (decide (ka = 3 ∧ kb = 3)) ka na ta kb nb tb) (fun k => ?_) (Ev.step (f := fun k => (marqueeref02_mulDiv.f k na nb d).bind fun r => some (ofV (mx ka kb) r)) (fun k => ?_) (Ev.bind (mulDiv_ev na nb d ha hb ?_ (by rw [hd]; split <;> decide)) (Ev.now _)))
      · rw [r_Mul.j1_eq]
        rcases k1 with h | h <;> rcases k2 with h' | h' <;> subst h h' <;> rfl
      · rw [r_Mul.j2_eq, hd]
        by_cases c3 : ka = 3 ∧ kb = 3
        · rw [decide_eq_true c3, if_pos rfl, if_pos c3]
          congr 1; funext r; rw [of_eq', Option.bind_some]
        · rw [decide_eq_false c3, if_neg (by decide), if_neg c3]
          congr 1; funext r; rw [of_eq', Option.bind_some]
      · rw [hd]; split <;> exact i64_small (by omega)
    rcases k1 with h | h <;> rcases k2 with h' | h' <;> subst h h'
    · exact Ev.step (f := fun k => marqueeref02_Mul.j1 k 2 1 2 na ta 2 nb tb) (fun k => by rw [if_neg (by decide), if_neg (by decide)]; exact r_Mul.j0_eq ..) (j2 2 _ rfl rfl)
    · exact Ev.step (f := fun k => marqueeref02_Mul.j1 k 3 1 2 na ta 3 nb tb) (fun k => by rw [if_neg (by decide), if_neg (by decide)]; exact r_Mul.j0_eq ..) (j2 3 _ rfl rfl)
    · exact Ev.step (f := fun k => marqueeref02_Mul.j1 k 3 1 3 na ta 2 nb tb) (fun k => by rw [if_neg (by decide), if_pos rfl]; exact r_Mul.j0_eq ..) (j2 3 _ rfl rfl)
    · exact Ev.step (f := fun k => marqueeref02_Mul.j1 k 3 1 3 na ta 3 nb tb) (fun k => by rw [if_neg (by decide), if_pos rfl]; exact r_Mul.j0_eq ..) (j2 3 _ rfl rfl)
theorem rdiv_ev (ka na : Int) (ta : ByteArray) (kb nb : Int) (tb : ByteArray) (ha : i64 na) (hb : i64 nb) : Ev (fun k => marqueeref02_Div.f k ka na ta kb nb tb) (divV ka na kb nb) := by
  refine Ev.congr (fun q => by unfold marqueeref02_Div.f; rfl) (Ev.bind (first_ev ka na ta kb nb tb true) ?_)
  unfold divV
  by_cases c : (ask ka kb).2 ≠ 0 ∨ (ask ka kb).1 = true
  · rw [if_pos c, first_no c]
    exact Ev.congr (fun _ => if_pos rfl) (Ev.now _)
  · rw [if_neg c]
    by_cases n0 : nb = 0
    · rw [if_pos n0, first_zero c n0]
      exact Ev.congr (fun _ => if_pos rfl) (Ev.now _)
    rw [if_neg n0, first_go c (fun h => n0 h.2)]
    refine Ev.congr (f := fun k => marqueeref02_Div.j0 k (decide (ka = 2 ∧ kb = 2)) ka na ta kb nb tb) (fun k => ?_) ?_
    · rw [if_neg (by decide), ← and_two]
      split <;> rfl
    · by_cases c2 : ka = 2 ∧ kb = 2
      · rw [if_pos c2, decide_eq_true c2, ← like_of (md_like na 1 nb n0) 2]
        refine Ev.step (f := fun k => (marqueeref02_mulDiv.f k na 1 nb).bind fun r => some (ofV 2 r)) (fun k => ?_) (Ev.bind (mulDiv_ev na 1 nb ha (i64_small (by omega)) hb n0) (Ev.now _))
        rw [r_Div.j0_eq, if_pos rfl]
        congr 1; funext r; rw [of_eq', Option.bind_some]
      · rw [if_neg c2, decide_eq_false c2]
        obtain ⟨l1, l2⟩ := decs_like ka na kb nb
        refine Ev.step (f := fun k => if ((rdec ka na).2 && (rdec kb nb).2) = true then (marqueeref02_mulDiv.f k (rdec ka na).1 10000 (rdec kb nb).1).bind fun r => some (ofV 3 r) else some (0, 0, E, 20)) (fun k => ?_) ?_
        · rw [r_Div.j0_eq, if_neg (by decide), decs_eq, Option.bind_some]
          show (if ((rdec ka na).2 && (rdec kb nb).2) = true then _ else _) = _
          split
          · congr 1; funext r; rw [of_eq', Option.bind_some]
          · rfl
        · rw [l1]
          by_cases c3 : (decsV ka na kb nb).2.2 = true
          · obtain ⟨e1, e2⟩ := l2 c3
            have hy : (decV kb nb).1 ≠ 0 := dec_ne n0 c3
            rw [if_pos c3, e1, e2, ← like_of (md_like (decV ka na).1 10000 (decV kb nb).1 hy) 3]
            exact Ev.congr (fun k => if_pos c3) (Ev.bind (mulDiv_ev _ 10000 _ (decV_i64 _ _ ha) (i64_small (by omega)) (decV_i64 _ _ hb) hy) (Ev.now _))
          · rw [if_neg c3]
            exact Ev.congr (fun k => if_neg c3) (Ev.now _)
theorem mod_j1 (kd x y : Int) (hy : y ≠ 0) : Ev (fun k => marqueeref02_Mod.j1 k kd x y true) (ofV kd (leftV x y)) := by
  refine Ev.stops (fun k => ?_)
  rw [r_Mod.j1_eq, if_pos rfl]
  unfold leftV
  by_cases c : y = -1
  · rw [if_pos c, if_pos c, of_eq' kd (0, true), Option.bind_some]
  · rw [if_neg c, if_neg c, if_neg hy, of_eq' kd (Int.tmod x y, true), Option.bind_some]
theorem rmod_ev (ka na : Int) (ta : ByteArray) (kb nb : Int) (tb : ByteArray) : Ev (fun k => marqueeref02_Mod.f k ka na ta kb nb tb) (modV ka na kb nb) := by
  refine Ev.congr (fun q => by unfold marqueeref02_Mod.f; rfl) (Ev.bind (first_ev ka na ta kb nb tb true) ?_)
  unfold modV
  by_cases c : (ask ka kb).2 ≠ 0 ∨ (ask ka kb).1 = true
  · rw [if_pos c, first_no c]
    exact Ev.congr (fun _ => if_pos rfl) (Ev.now _)
  · rw [if_neg c]
    by_cases n0 : nb = 0
    · rw [if_pos n0, first_zero c n0]
      exact Ev.congr (fun _ => if_pos rfl) (Ev.now _)
    rw [if_neg n0, first_go c (fun h => n0 h.2)]
    obtain ⟨k1, k2⟩ := ask_two c
    unfold twoV
    rw [if_neg c]
    have key : ¬ (ka = 2 ∧ kb = 2) → Ev (fun k => marqueeref02_Mod.j0 k 2 na nb true true ka na ta kb nb tb) (if (decsV ka na kb nb).2.2 = true then ofV 3 (leftV (decV ka na).1 (decV kb nb).1) else (0, 0, E, 20)) := fun c2 => by
      obtain ⟨l1, l2⟩ := decs_like ka na kb nb
      refine Ev.step (f := fun k => marqueeref02_Mod.j1 k 3 (rdec ka na).1 (rdec kb nb).1 ((rdec ka na).2 && (rdec kb nb).2)) (fun k => by rw [r_Mod.j0_eq, if_pos rfl, decs_eq, Option.bind_some]) ?_
      rw [l1]
      by_cases c3 : (decsV ka na kb nb).2.2 = true
      · obtain ⟨e1, e2⟩ := l2 c3
        rw [if_pos c3, c3, e1, e2]
        exact mod_j1 _ _ _ (dec_ne n0 c3)
      · rw [if_neg c3, show (decsV ka na kb nb).2.2 = false by simpa using c3]
        exact Ev.stops (fun k => by rw [r_Mod.j1_eq, if_neg (by decide)]; rfl)
    rcases k1 with h | h <;> rcases k2 with h' | h' <;> subst h h'
    · rw [if_pos ⟨rfl, rfl⟩]
      exact Ev.step (f := fun k => marqueeref02_Mod.j1 k 2 na nb true) (fun k => by rw [if_neg (by decide), if_neg (by decide)]; exact r_Mod.j0_eq ..) (mod_j1 _ _ _ n0)
    · rw [if_neg (by omega)]
      exact Ev.congr (fun k => by rw [if_neg (by decide), if_neg (by decide)]; rfl) (key (by omega))
    · rw [if_neg (by omega)]
      exact Ev.congr (fun k => by rw [if_neg (by decide), if_pos rfl]) (key (by omega))
    · rw [if_neg (by omega)]
      exact Ev.congr (fun k => by rw [if_neg (by decide), if_pos rfl]) (key (by omega))
theorem rtoDec_ev (k n : Int) (t : ByteArray) : Ev (fun q => marqueeref02_Dec.f q k n t) (toDec k n) := by
  refine Ev.congr (fun q => by unfold marqueeref02_Dec.f; rfl) (Ev.bind (first_ev k n t k n t false) ?_)
  unfold toDec
  by_cases c : (ask k k).2 ≠ 0 ∨ (ask k k).1 = true
  · rw [if_pos c, first_no c]
    exact Ev.congr (fun _ => if_pos rfl) (Ev.now _)
  · rw [if_neg c, first_go c (fun h => by cases h.1), ← like_of (dec_like k n) 3]
    refine Ev.congr (fun _ => ?_) (Ev.now _)
    rw [if_neg (by decide), dec_eq, Option.bind_some, of_eq', Option.bind_some]
theorem rtoInt_ev (k n : Int) (t : ByteArray) : Ev (fun q => marqueeref02_Int.f q k n t) (toInt k n) := by
  refine Ev.congr (fun q => by unfold marqueeref02_Int.f; rfl) (Ev.bind (first_ev k n t k n t false) ?_)
  unfold toInt
  by_cases c : (ask k k).2 ≠ 0 ∨ (ask k k).1 = true
  · rw [if_pos c, first_no c]
    exact Ev.congr (fun _ => if_pos rfl) (Ev.now _)
  · rw [if_neg c, first_go c (fun h => by cases h.1)]
    refine Ev.congr (fun _ => ?_) (Ev.now _)
    rw [if_neg (by decide)]
    by_cases c3 : k = 3
    · rw [if_pos c3, if_pos c3, of_ok, Option.bind_some]
    · rw [if_neg c3, if_neg c3, of_ok, Option.bind_some]
/-! ### The law -/
theorem same_step (v : Val) {β : Type} (g : Nat → Option β) (r : β) (h : Ev g r) : Ev (fun k => if (!(v.1 == v.1) || (!(v.2.1 == v.2.1) || (!(v.2.2.1.toList == v.2.2.1.toList)))) = true then none else (if v.2.2.2 = v.2.2.2 then g k else none)) r :=
  Ev.congr (fun k => by rw [if_neg (by simp), if_pos rfl]) h
theorem all_step (ka na : Int) (ta : ByteArray) (kb nb : Int) (tb : ByteArray) (ha : i64 na) (hb : i64 nb) (i : Int) (h0 : 0 ≤ i) (h8 : i < 8) (h : Ev (fun k => marqueelaw02_ArithAll.l0 k (i + 1) ka na ta kb nb tb) true) :
    Ev (fun k => marqueelaw02_ArithAll.l0 k i ka na ta kb nb tb) true := by
  have hw : wrap64 (i + 1) = i + 1 := w64 ⟨by omega, by omega⟩
  rw [← hw] at h
  have cs : i = 0 ∨ i = 1 ∨ i = 2 ∨ i = 3 ∨ i = 4 ∨ i = 5 ∨ i = 6 ∨ i = 7 := by omega
  clear hw h0 h8
  rcases cs with rfl | rfl | rfl | rfl | rfl | rfl | rfl | rfl
  · exact Ev.step (fun k => by rw [r_ArithAll.l0_eq, if_pos (by decide), if_pos rfl]) (Ev.bind (neg_ev ka na ta ha) (Ev.bind (rneg_ev ka na ta) (same_step _ _ _ h)))
  · exact Ev.step (fun k => by rw [r_ArithAll.l0_eq, if_pos (by decide), if_neg (by decide), if_pos rfl]) (Ev.bind (add_ev ka na ta kb nb tb ha hb) (Ev.bind (radd_ev ka na ta kb nb tb ha hb) (same_step _ _ _ h)))
  · exact Ev.step (fun k => by rw [r_ArithAll.l0_eq, if_pos (by decide), if_neg (by decide), if_neg (by decide), if_pos rfl]) (Ev.bind (sub_ev ka na ta kb nb tb ha hb) (Ev.bind (rsub_ev ka na ta kb nb tb ha hb) (same_step _ _ _ h)))
  · exact Ev.step (fun k => by rw [r_ArithAll.l0_eq, if_pos (by decide), if_neg (by decide), if_neg (by decide), if_neg (by decide), if_pos rfl]) (Ev.bind (mul_ev ka na ta kb nb tb ha hb) (Ev.bind (rmul_ev ka na ta kb nb tb ha hb) (same_step _ _ _ h)))
  · exact Ev.step (fun k => by rw [r_ArithAll.l0_eq, if_pos (by decide), if_neg (by decide), if_neg (by decide), if_neg (by decide), if_neg (by decide), if_pos rfl]) (Ev.bind (div_ev ka na ta kb nb tb ha hb) (Ev.bind (rdiv_ev ka na ta kb nb tb ha hb) (same_step _ _ _ h)))
  · exact Ev.step (fun k => by rw [r_ArithAll.l0_eq, if_pos (by decide), if_neg (by decide), if_neg (by decide), if_neg (by decide), if_neg (by decide), if_neg (by decide), if_pos rfl]) (Ev.bind (mod_ev ka na ta kb nb tb ha hb) (Ev.bind (rmod_ev ka na ta kb nb tb) (same_step _ _ _ h)))
  · exact Ev.step (fun k => by rw [r_ArithAll.l0_eq, if_pos (by decide), if_neg (by decide), if_neg (by decide), if_neg (by decide), if_neg (by decide), if_neg (by decide), if_neg (by decide), if_pos rfl]) (Ev.bind (toDec_ev ka na ta ha) (Ev.bind (rtoDec_ev ka na ta) (same_step _ _ _ h)))
  · exact Ev.step (fun k => by rw [r_ArithAll.l0_eq, if_pos (by decide), if_neg (by decide), if_neg (by decide), if_neg (by decide), if_neg (by decide), if_neg (by decide), if_neg (by decide), if_neg (by decide), if_pos rfl]) (Ev.bind (toInt_ev ka na ta) (Ev.bind (rtoInt_ev ka na ta) (same_step _ _ _ h)))
theorem sureA_200 : marqueelaw02_sure.f 200 = some true := by kernel_rfl
theorem sureA_ev : Ev (fun k => marqueelaw02_sure.f k) true := Ev.of marqueelaw02_sure.mono sureA_200
theorem ArithAll_pure (ka na : Int) (ta : ByteArray) (kb nb : Int) (tb : ByteArray) (ha : i64 na) (hb : i64 nb) : ∃ k, marqueelaw02_ArithAll.f k ka na ta kb nb tb = some true := by
  refine Ev.rounds ?_
  unfold marqueelaw02_ArithAll.f
  have s := all_step ka na ta kb nb tb ha hb
  refine s 0 (by decide) (by decide) (s 1 (by decide) (by decide) (s 2 (by decide) (by decide) (s 3 (by decide) (by decide) (s 4 (by decide) (by decide) (s 5 (by decide) (by decide) (s 6 (by decide) (by decide) (s 7 (by decide) (by decide) ?_)))))))
  exact Ev.step (fun k => by rw [r_ArithAll.l0_eq, if_neg (by decide)]) (Ev.bind sureA_ev (Ev.now _))
end Go.Proofs.Ytnfolhfnkbidgaa.Ref
