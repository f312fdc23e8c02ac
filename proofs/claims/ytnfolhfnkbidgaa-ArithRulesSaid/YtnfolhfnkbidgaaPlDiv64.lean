import Derived.Test.YtnfolhfnkbidgaaPlDiv
namespace Go.Proofs.Ytnfolhfnkbidgaa
open Go.RowKit Print Go.Proofs.YtnfolhfnkbidgaaW.PrintWords Go.Proofs.YtnfolhfnkbidgaaW.PrintMore
theorem and32 (x : Int) (h0 : 0 ≤ x) (h1 : x ≤ 18446744073709551615) : Go.bits .and .u64 x 4294967295 = x % 4294967296 := by
  obtain ⟨n, rfl⟩ := Int.eq_ofNat_of_zero_le h0
  have := u64_and_nat n 4294967295 (by omega) (by omega)
  rw [show ((4294967295 : Nat) : Int) = 4294967295 from rfl] at this
  rw [this, show (4294967295 : Nat) = 2 ^ 32 - 1 from rfl, Nat.and_two_pow_sub_one_eq_mod]
  omega
theorem or_low (hi x : Nat) (s : Nat) (hx : x < 2 ^ s) (h : hi * 2 ^ s + x < 18446744073709551616) : Go.bits .or .u64 ((hi * 2 ^ s : Nat) : Int) (x : Int) = ((hi * 2 ^ s + x : Nat) : Int) := by
  rw [u64_or_nat (hi * 2 ^ s) x (by omega) (by omega)]
  congr 1
  rw [Nat.mul_comm, Nat.two_pow_add_eq_or_of_lt hx]
theorem div64_ev (hi lo d : Nat) (hd : hi < d) (hlo : lo < 18446744073709551616) (hd' : d < 18446744073709551616) :
    Ev (fun k => bits_Div64.f k hi lo d) ((((hi * 18446744073709551616 + lo) / d : Nat) : Int), (((hi * 18446744073709551616 + lo) % d : Nat) : Int)) := by
  have hd0 : ¬ ((d : Int) = 0) := by omega
  by_cases h0 : hi = 0
  · subst h0
    refine Ev.congr (f := fun _ => some ((((0 * 18446744073709551616 + lo) / d : Nat) : Int), (((0 * 18446744073709551616 + lo) % d : Nat) : Int))) (fun k => ?_) (Ev.now _)
    unfold bits_Div64.f
    rw [if_neg hd0, if_neg (by omega), if_pos (by omega)]
    have q1 : ((lo : Int) / (d : Int)) = ((lo / d : Nat) : Int) := (Int.natCast_ediv lo d).symm
    have q2 : ((lo : Int) % (d : Int)) = ((lo % d : Nat) : Int) := (Int.natCast_emod lo d).symm
    have q3 := Nat.div_le_self lo d
    rw [Int.tdiv_eq_ediv_of_nonneg (by omega), Int.tmod_eq_emod_of_nonneg (by omega), q1, q2, Nat.zero_mul, Nat.zero_add]
    clear q1 q2
    obtain ⟨z, hz⟩ : ∃ z, lo / d = z := ⟨_, rfl⟩
    rw [hz] at q3 ⊢
    rw [uin (by omega) (by omega)]
  · obtain ⟨hL1, hL2, hL3⟩ := Lib.bitLenAux_bounds 64 d (by omega) (by omega)
    have hLe : Lib.bitLen d = Lib.bitLenAux 64 d := rfl
    have hL64 : Lib.bitLenAux 64 d ≤ 64 := Lib.bitLenAux_le 64 d 64 (by omega)
    rw [← hLe] at hL1 hL2 hL3 hL64
    obtain ⟨s, hs⟩ : ∃ s, s = 64 - Lib.bitLen d := ⟨_, rfl⟩
    have hL : Lib.bitLen d = 64 - s := by omega
    rw [hL] at hL1 hL2 hL3
    obtain ⟨p, hp⟩ : ∃ p, 2 ^ s = p := ⟨_, rfl⟩
    obtain ⟨p', hp'⟩ : ∃ p', 2 ^ (64 - s) = p' := ⟨_, rfl⟩
    have hpp : p * p' = 18446744073709551616 := by rw [← hp, ← hp', ← Nat.pow_add, show s + (64 - s) = 64 by omega]
    have hp0 : 0 < p := by rw [← hp]; exact Nat.two_pow_pos s
    have hp'0 : 0 < p' := by rw [← hp']; exact Nat.two_pow_pos _
    have hhalf : 2 * 2 ^ (64 - s - 1) = p' := by rw [← hp', ← Nat.pow_succ', show (64 - s - 1).succ = 64 - s by omega]
    rw [hp'] at hL3
    -- the divisor, shifted
    have hY2 : d * p < 18446744073709551616 := by rw [← hpp, Nat.mul_comm p p']; exact Nat.mul_lt_mul_of_pos_right hL3 hp0
    have hY1 : 9223372036854775808 ≤ d * p := by
      have a : 2 ^ (64 - s - 1) * p ≤ d * p := Nat.mul_le_mul_right p hL2
      have b : 2 * (2 ^ (64 - s - 1) * p) = 18446744073709551616 := by rw [← Nat.mul_assoc, hhalf, Nat.mul_comm, hpp]
      omega
    -- what is divided, shifted
    have hx : lo / p' < p := by rw [Nat.div_lt_iff_lt_mul hp'0, hpp]; exact hlo
    have hlp : lo * p = lo / p' * 18446744073709551616 + lo % p' * p := by
      have := Nat.div_add_mod lo p'
      have e : lo * p = (p' * (lo / p') + lo % p') * p := by rw [this]
      rw [e, Nat.add_mul, ← hpp, Nat.mul_comm p' (lo / p'), Nat.mul_assoc (lo / p') p' p, Nat.mul_comm p' p]
    have hW : lo % p' * p < 18446744073709551616 := by rw [← hpp, Nat.mul_comm p p']; exact Nat.mul_lt_mul_of_pos_right (Nat.mod_lt _ hp'0) hp0
    have hWm : lo * p % 18446744073709551616 = lo % p' * p := by rw [hlp, Nat.add_comm, Nat.add_mul_mod_self_right, Nat.mod_eq_of_lt hW]
    have hhp : hi * p + p ≤ d * p := by rw [← Nat.succ_mul]; exact Nat.mul_le_mul_right p hd
    have hall : (hi * p + lo / p') * 18446744073709551616 + lo % p' * p = (hi * 18446744073709551616 + lo) * p := by
      rw [Nat.add_mul, Nat.add_mul, hlp, Nat.mul_right_comm hi p]; omega
    obtain ⟨W, hWe⟩ : ∃ W, lo % p' * p = W := ⟨_, rfl⟩
    rw [hWe] at hW hWm hall
    -- the words of the printed function
    have el : bits_LeadingZeros64.f (d : Int) = some (s : Int) := by
      unfold bits_LeadingZeros64.f
      rw [if_pos ⟨by omega, by omega⟩, Int.toNat_natCast, hL]
      congr 1
      omega
    have e1 : IntKind.u64.wrap (s : Int) = (s : Int) := uin (by omega) (by omega)
    have e2 : IntKind.u64.wrap (64 - (s : Int)) = ((64 - s : Nat) : Int) := by rw [uin (by omega) (by omega)]; omega
    have eshl : ∀ x : Nat, shl .u64 (x : Int) (s : Int) = ((x * p % 18446744073709551616 : Nat) : Int) := fun x => by
      unfold shl
      rw [Int.toNat_natCast, Nat.min_eq_left (by show s ≤ 64; omega), uw, show ((x : Int) * 2 ^ s) = ((x * p : Nat) : Int) by rw [← hp]; push_cast; rfl]
      omega
    have eshr : shr .u64 (lo : Int) ((64 - s : Nat) : Int) = ((lo / p' : Nat) : Int) := by
      unfold shr
      rw [Int.toNat_natCast, Nat.min_eq_left (by show 64 - s ≤ 64; omega), show ((2 : Int) ^ (64 - s)) = ((p' : Nat) : Int) by rw [← hp']; push_cast; rfl]
      exact (Int.natCast_ediv lo p').symm
    have hYm : d * p % 18446744073709551616 = d * p := Nat.mod_eq_of_lt hY2
    have hhm : hi * p % 18446744073709551616 = hi * p := Nat.mod_eq_of_lt (by omega)
    have eor : Go.bits .or .u64 ((hi * p : Nat) : Int) ((lo / p' : Nat) : Int) = ((hi * p + lo / p' : Nat) : Int) := by
      rw [← hp] at hx hhp ⊢
      exact or_low hi _ s hx (by rw [← hp] at hY2; omega)
    obtain ⟨Y, hYe⟩ : ∃ Y, d * p = Y := ⟨_, rfl⟩
    obtain ⟨U, hUe⟩ : ∃ U, hi * p + lo / p' = U := ⟨_, rfl⟩
    have hUY : U < Y := by omega
    rw [hUe] at hall eor
    rw [hYe] at hY1 hY2 hYm
    have core := div_two (Y := (Y : Int)) (y1 := ((Y / 4294967296 : Nat) : Int)) (y0 := ((Y % 4294967296 : Nat) : Int)) (U := (U : Int)) (u1 := ((W / 4294967296 : Nat) : Int)) (u0 := ((W % 4294967296 : Nat) : Int)) (s := (s : Int)) (by omega) (by omega) (by omega) (by omega) (by omega) (by omega) (by omega) (by omega) (by omega) (by omega) (by omega) (by omega)
    have eX : (U : Int) * 18446744073709551616 + ((W / 4294967296 : Nat) : Int) * 4294967296 + ((W % 4294967296 : Nat) : Int) = (((hi * 18446744073709551616 + lo) * p : Nat) : Int) := by omega
    rw [eX, show ((((hi * 18446744073709551616 + lo) * p : Nat) : Int) / (Y : Int)) = (((hi * 18446744073709551616 + lo) * p / Y : Nat) : Int) from (Int.natCast_ediv _ _).symm, show ((((hi * 18446744073709551616 + lo) * p : Nat) : Int) % (Y : Int)) = (((hi * 18446744073709551616 + lo) * p % Y : Nat) : Int) from (Int.natCast_emod _ _).symm] at core
    have q1 : (hi * 18446744073709551616 + lo) * p / Y = (hi * 18446744073709551616 + lo) / d := by rw [← hYe, Nat.mul_div_mul_right _ _ hp0]
    have q2 : (hi * 18446744073709551616 + lo) * p % Y = (hi * 18446744073709551616 + lo) % d * p := by rw [← hYe, Nat.mul_mod_mul_right]
    have q3 : shr .u64 (((hi * 18446744073709551616 + lo) % d * p : Nat) : Int) (s : Int) = (((hi * 18446744073709551616 + lo) % d : Nat) : Int) := by
      unfold shr
      rw [Int.toNat_natCast, Nat.min_eq_left (by show s ≤ 64; omega), show ((2 : Int) ^ s) = ((p : Nat) : Int) by rw [← hp]; push_cast; rfl, ← Int.natCast_ediv, Nat.mul_div_cancel _ hp0]
    rw [q1, q2, q3] at core
    refine Ev.congr (fun k => ?_) core
    unfold bits_Div64.f
    rw [if_neg hd0, if_neg (by omega), if_neg (by omega), el, Option.bind_some, e1, e2, eshl, eshl, eshl, hYe, hYm, hhm, eshr, eor, hWm]
    rw [if_pos (by omega), if_pos (by omega), if_neg (by omega), and32 _ (by omega) (by omega), and32 _ (by omega) (by omega)]
    have ey1 : ((Y : Int) / 4294967296) = ((Y / 4294967296 : Nat) : Int) := by omega
    have ey0 : ((Y : Int) % 4294967296) = ((Y % 4294967296 : Nat) : Int) := by omega
    have ew1 : ((W : Int) / 4294967296) = ((W / 4294967296 : Nat) : Int) := by omega
    have ew0 : ((W : Int) % 4294967296) = ((W % 4294967296 : Nat) : Int) := by omega
    rw [ey1, ey0, ew1, ew0]
    clear ey1 ey0 ew1 ew0
    have hy1 : 0 < Y / 4294967296 := by omega
    have hq := Nat.div_le_self U (Y / 4294967296)
    have hqm := Nat.div_mul_le_self U (Y / 4294967296)
    have et : Int.tdiv (U : Int) ((Y / 4294967296 : Nat) : Int) = ((U / (Y / 4294967296) : Nat) : Int) := by
      rw [Int.tdiv_eq_ediv_of_nonneg (by omega)]
      exact (Int.natCast_ediv _ _).symm
    have et' : ((U : Int) / ((Y / 4294967296 : Nat) : Int)) = ((U / (Y / 4294967296) : Nat) : Int) := (Int.natCast_ediv _ _).symm
    rw [et, et']
    clear et et'
    obtain ⟨y1, hy1e⟩ : ∃ y1, Y / 4294967296 = y1 := ⟨_, rfl⟩
    rw [hy1e] at hq hqm ⊢
    obtain ⟨q, hqe⟩ : ∃ q, U / y1 = q := ⟨_, rfl⟩
    rw [hqe] at hq hqm ⊢
    have em : IntKind.u64.wrap ((q : Int) * (y1 : Int)) = (q : Int) * (y1 : Int) := by
      rw [← Int.natCast_mul]
      exact uin (by omega) (by omega)
    rw [uin (x := (q : Int)) (by omega) (by omega), em]
    rw [← Int.natCast_mul]
    rw [uin (x := (U : Int) - ((q * y1 : Nat) : Int)) (by omega) (by omega)]
end Go.Proofs.Ytnfolhfnkbidgaa
