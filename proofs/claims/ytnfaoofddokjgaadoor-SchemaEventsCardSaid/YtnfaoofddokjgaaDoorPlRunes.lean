import Derived.Test.YtnfaoofddokjgaaDoorPx0
import Derived.Lib.ValidLaws
namespace Go.Proofs.YtnfaoofddokjgaaDoor
open Go.RowKit Print Go.Proofs.YtnfaoofddokjgaaDoorW.PrintWords
theorem w64 {x : Int} (h : -9223372036854775808 ≤ x) (h2 : x ≤ 9223372036854775807) : wrap64 x = x := by unfold wrap64; omega
/-- How many bytes the reference takes at a place: n bytes are left, the first is c. -/
def refN (n c b1 b2 b3 : Int) : Option Nat :=
  if c < 128 then some 1
  else if c < 192 then none
  else if c < 224 then (if n < 2 then none else if b1 < 128 then none else if b1 ≥ 192 then none else if (c - 192) * 64 + b1 - 128 < 128 then none else some 2)
  else if c < 240 then (if n < 3 then none else if b1 < 128 then none else if b1 ≥ 192 then none else if b2 < 128 then none else if b2 ≥ 192 then none
    else if ((c - 224) * 64 + b1 - 128) * 64 + b2 - 128 < 2048 then none else if ((c - 224) * 64 + b1 - 128) * 64 + b2 - 128 ≥ 55296 ∧ ((c - 224) * 64 + b1 - 128) * 64 + b2 - 128 < 57344 then none else some 3)
  else if c < 248 then (if n < 4 then none else if b1 < 128 then none else if b1 ≥ 192 then none else if b2 < 128 then none else if b2 ≥ 192 then none else if b3 < 128 then none else if b3 ≥ 192 then none
    else if (((c - 240) * 64 + b1 - 128) * 64 + b2 - 128) * 64 + b3 - 128 < 65536 then none else if (((c - 240) * 64 + b1 - 128) * 64 + b2 - 128) * 64 + b3 - 128 > 1114111 then none else some 4)
  else none
theorem first_hi : ∀ c : Fin 256, 245 ≤ c.val → Lib.firstT c.val % 8 = 1 := by decide +kernel
set_option maxRecDepth 100000 in
set_option maxHeartbeats 1000000 in
theorem refN_check (n c b1 b2 b3 : Nat) (h0 : 128 ≤ c) (h0' : c < 256) (h1 : b1 < 256) (h2 : b2 < 256) (h3 : b3 < 256) :
    refN n c b1 b2 b3 = Lib.checkN n b1 b2 b3 (Lib.firstT c % 8) (Lib.accLo (Lib.firstT c / 16)) (Lib.accHi (Lib.firstT c / 16)) := by
  have key : ∀ (sz lo hi : Nat), Lib.firstT c % 8 = sz → Lib.accLo (Lib.firstT c / 16) = lo → Lib.accHi (Lib.firstT c / 16) = hi → refN n c b1 b2 b3 = Lib.checkN n b1 b2 b3 sz lo hi → refN n c b1 b2 b3 = Lib.checkN n b1 b2 b3 (Lib.firstT c % 8) (Lib.accLo (Lib.firstT c / 16)) (Lib.accHi (Lib.firstT c / 16)) := fun sz lo hi e1 e2 e3 e => by rw [e1, e2, e3]; exact e
  by_cases c0 : c < 194
  · refine key 1 _ _ (by simp [Lib.firstT, show ¬ c < 128 by omega, c0]) rfl rfl ?_
    unfold refN Lib.checkN
    rw [if_neg (show ¬ (c : Int) < 128 by omega), if_neg (show ¬ 1 = 2 by decide), if_neg (show ¬ 1 = 3 by decide), if_neg (show ¬ 1 = 4 by decide)]
    by_cases hc : (c : Int) < 192
    · rw [if_pos hc]
    · rw [if_neg hc, if_pos (show (c : Int) < 224 by omega)]
      repeat' split
      all_goals first | rfl | (exfalso; omega)
  by_cases c1 : c < 224
  · refine key 2 128 191 (by simp [Lib.firstT, show ¬ c < 128 by omega, c0, c1]) (by simp [Lib.firstT, Lib.accLo, show ¬ c < 128 by omega, c0, c1]) (by simp [Lib.firstT, Lib.accHi, show ¬ c < 128 by omega, c0, c1]) ?_
    unfold refN Lib.checkN
    rw [if_neg (show ¬ (c : Int) < 128 by omega), if_neg (show ¬ (c : Int) < 192 by omega), if_pos (show (c : Int) < 224 by omega), if_pos (show 2 = 2 from rfl)]
    repeat' split
    all_goals first | rfl | (exfalso; omega)
  have three : ∀ lo hi : Nat, c < 240 → (lo = 128 ∨ (lo = 160 ∧ c = 224)) → (hi = 191 ∨ (hi = 159 ∧ c = 237)) → (c = 224 → lo = 160) → (c = 237 → hi = 159) → refN n c b1 b2 b3 = Lib.checkN n b1 b2 b3 3 lo hi := by
    intro lo hi c5 hlo hhi hlo' hhi'
    unfold refN Lib.checkN
    rw [if_neg (show ¬ (c : Int) < 128 by omega), if_neg (show ¬ (c : Int) < 192 by omega), if_neg (show ¬ (c : Int) < 224 by omega), if_pos (show (c : Int) < 240 by omega), if_neg (show ¬ 3 = 2 by decide), if_pos (show 3 = 3 from rfl)]
    repeat' split
    all_goals first | rfl | (exfalso; omega)
  have four : ∀ lo hi : Nat, 240 ≤ c → c < 245 → (lo = 128 ∨ (lo = 144 ∧ c = 240)) → (hi = 191 ∨ (hi = 143 ∧ c = 244)) → (c = 240 → lo = 144) → (c = 244 → hi = 143) → refN n c b1 b2 b3 = Lib.checkN n b1 b2 b3 4 lo hi := by
    intro lo hi c5 c6 hlo hhi hlo' hhi'
    unfold refN Lib.checkN
    rw [if_neg (show ¬ (c : Int) < 128 by omega), if_neg (show ¬ (c : Int) < 192 by omega), if_neg (show ¬ (c : Int) < 224 by omega), if_neg (show ¬ (c : Int) < 240 by omega), if_pos (show (c : Int) < 248 by omega), if_neg (show ¬ 4 = 2 by decide), if_neg (show ¬ 4 = 3 by decide), if_pos (show 4 = 4 from rfl)]
    repeat' split
    all_goals first | rfl | (exfalso; omega)
  by_cases c2 : c = 224
  · subst c2; exact key 3 160 191 (by decide) (by decide) (by decide) (three _ _ (by omega) (by omega) (by omega) (by omega) (by omega))
  by_cases c3 : c < 237
  · exact key 3 128 191 (by simp [Lib.firstT, show ¬ c < 128 by omega, c0, c1, c2, c3]) (by simp [Lib.firstT, Lib.accLo, show ¬ c < 128 by omega, c0, c1, c2, c3]) (by simp [Lib.firstT, Lib.accHi, show ¬ c < 128 by omega, c0, c1, c2, c3]) (three _ _ (by omega) (by omega) (by omega) (by omega) (by omega))
  by_cases c4 : c = 237
  · subst c4; exact key 3 128 159 (by decide) (by decide) (by decide) (three _ _ (by omega) (by omega) (by omega) (by omega) (by omega))
  by_cases c5 : c < 240
  · exact key 3 128 191 (by simp [Lib.firstT, show ¬ c < 128 by omega, c0, c1, c2, c3, c4, c5]) (by simp [Lib.firstT, Lib.accLo, show ¬ c < 128 by omega, c0, c1, c2, c3, c4, c5]) (by simp [Lib.firstT, Lib.accHi, show ¬ c < 128 by omega, c0, c1, c2, c3, c4, c5]) (three _ _ (by omega) (by omega) (by omega) (by omega) (by omega))
  by_cases c6 : c = 240
  · subst c6; exact key 4 144 191 (by decide) (by decide) (by decide) (four _ _ (by omega) (by omega) (by omega) (by omega) (by omega) (by omega))
  by_cases c7 : c < 244
  · exact key 4 128 191 (by simp [Lib.firstT, show ¬ c < 128 by omega, c0, c1, c2, c3, c4, c5, c6, c7]) (by simp [Lib.firstT, Lib.accLo, show ¬ c < 128 by omega, c0, c1, c2, c3, c4, c5, c6, c7]) (by simp [Lib.firstT, Lib.accHi, show ¬ c < 128 by omega, c0, c1, c2, c3, c4, c5, c6, c7]) (four _ _ (by omega) (by omega) (by omega) (by omega) (by omega) (by omega))
  by_cases c8 : c = 244
  · subst c8; exact key 4 128 143 (by decide) (by decide) (by decide) (four _ _ (by omega) (by omega) (by omega) (by omega) (by omega) (by omega))
  · refine key 1 _ _ (first_hi ⟨c, h0'⟩ (by show 245 ≤ c; omega)) rfl rfl ?_
    unfold refN Lib.checkN
    rw [if_neg (show ¬ (c : Int) < 128 by omega), if_neg (show ¬ (c : Int) < 192 by omega), if_neg (show ¬ (c : Int) < 224 by omega), if_neg (show ¬ (c : Int) < 240 by omega), if_neg (show ¬ 1 = 2 by decide), if_neg (show ¬ 1 = 3 by decide), if_neg (show ¬ 1 = 4 by decide)]
    repeat' split
    all_goals first | rfl | (exfalso; omega)
end Go.Proofs.YtnfaoofddokjgaaDoor
