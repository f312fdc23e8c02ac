import Derived.Test.YtiabggpijomjmaaDoorPx7
import Derived.Lib.ValidLaws
import Derived.Laws.Bits64b
namespace Go.Proofs.YtiabggpijomjmaaDoor
open Go.RowKit Print Go.Proofs.YtiabggpijomjmaaDoorW.PrintWords
theorem w64 {x : Int} (h : -9223372036854775808 ≤ x) (h2 : x ≤ 9223372036854775807) : wrap64 x = x := by unfold wrap64; omega
/-- How many bytes the reference takes at a place: n bytes are left, the first is c. -/
def refN (n c b1 b2 b3 : Int) : Option Nat :=
  if c < 128 then some 1
  else if c < 192 then none
  else if c < 224 then (if n < 2 then none else if b1 < 128 then none else if b1 ≥ 192 then none else if (c - 192) * 64 + b1 - 128 < 128 then none else some 2)
  else if c < 240 then (if n < 3 then none else if b1 < 128 then none else if b1 ≥ 192 then none else if b2 < 128 then none else if b2 ≥ 192 then none
    else if ((c - 224) * 64 + b1 - 128) * 64 + b2 - 128 < 2048 then none else if ((c - 224) * 64 + b1 - 128) * 64 + b2 - 128 ≥ 55296 ∧ ((c - 224) * 64 + b1 - 128) * 64 + b2 - 128 < 57344 then none else some 3)
  else if c < 248 then (if n < 4 then none else if b1 < 128 then none else if b1 ≥ 192 then none else if b2 < 128 then none else if b2 ≥ 192 then none else if b3 < 128 then none else if b3 ≥ 192 then none
    else if (((c - 240) * 64 + b1 - 128) * 64 + b2 - 128) * 64 + b3 - 128 < 65536 then none else if (((c - 240) * 64 + b1 - 128) * 64 + b2 - 128) * 64 + b3 - 128 > 1114111 then none else some 4)
  else none
theorem first_hi : ∀ c : Fin 256, 245 ≤ c.val → Lib.firstT c.val % 8 = 1 := by decide +kernel
set_option maxRecDepth 100000 in
set_option maxHeartbeats 1000000 in
theorem refN_check (n c b1 b2 b3 : Nat) (h0 : 128 ≤ c) (h0' : c < 256) (h1 : b1 < 256) (h2 : b2 < 256) (h3 : b3 < 256) :
    refN n c b1 b2 b3 = Lib.checkN n b1 b2 b3 (Lib.firstT c % 8) (Lib.accLo (Lib.firstT c / 16)) (Lib.accHi (Lib.firstT c / 16)) := by
  have key : ∀ (sz lo hi : Nat), Lib.firstT c % 8 = sz → Lib.accLo (Lib.firstT c / 16) = lo → Lib.accHi (Lib.firstT c / 16) = hi → refN n c b1 b2 b3 = Lib.checkN n b1 b2 b3 sz lo hi → refN n c b1 b2 b3 = Lib.checkN n b1 b2 b3 (Lib.firstT c % 8) (Lib.accLo (Lib.firstT c / 16)) (Lib.accHi (Lib.firstT c / 16)) := fun sz lo hi e1 e2 e3 e => by rw [e1, e2, e3]; exact e
  by_cases c0 : c < 194
  · refine key 1 _ _ (by simp [Lib.firstT, show ¬ c < 128 by omega, c0]) rfl rfl ?_
    unfold refN Lib.checkN
    rw [if_neg (show ¬ (c : Int) < 128 by omega), if_neg (show ¬ 1 = 2 by decide), if_neg (show ¬ 1 = 3 by decide), if_neg (show ¬ 1 = 4 by decide)]
    by_cases hc : (c : Int) < 192
    · rw [if_pos hc]
    · rw [if_neg hc, if_pos (show (c : Int) < 224 by omega)]
      repeat' split
      all_goals first | rfl | (exfalso; omega)
  by_cases c1 : c < 224
  · refine key 2 128 191 (by simp [Lib.firstT, show ¬ c < 128 by omega, c0, c1]) (by simp [Lib.firstT, Lib.accLo, show ¬ c < 128 by omega, c0, c1]) (by simp [Lib.firstT, Lib.accHi, show ¬ c < 128 by omega, c0, c1]) ?_
    unfold refN Lib.checkN
    rw [if_neg (show ¬ (c : Int) < 128 by omega), if_neg (show ¬ (c : Int) < 192 by omega), if_pos (show (c : Int) < 224 by omega), if_pos (show 2 = 2 from rfl)]
    repeat' split
    all_goals first | rfl | (exfalso; omega)
  have three : ∀ lo hi : Nat, c < 240 → (lo = 128 ∨ (lo = 160 ∧ c = 224)) → (hi = 191 ∨ (hi = 159 ∧ c = 237)) → (c = 224 → lo = 160) → (c = 237 → hi = 159) → refN n c b1 b2 b3 = Lib.checkN n b1 b2 b3 3 lo hi := by
    intro lo hi c5 hlo hhi hlo' hhi'
    unfold refN Lib.checkN
    rw [if_neg (show ¬ (c : Int) < 128 by omega), if_neg (show ¬ (c : Int) < 192 by omega), if_neg (show ¬ (c : Int) < 224 by omega), if_pos (show (c : Int) < 240 by omega), if_neg (show ¬ 3 = 2 by decide), if_pos (show 3 = 3 from rfl)]
    repeat' split
    all_goals first | rfl | (exfalso; omega)
  have four : ∀ lo hi : Nat, 240 ≤ c → c < 245 → (lo = 128 ∨ (lo = 144 ∧ c = 240)) → (hi = 191 ∨ (hi = 143 ∧ c = 244)) → (c = 240 → lo = 144) → (c = 244 → hi = 143) → refN n c b1 b2 b3 = Lib.checkN n b1 b2 b3 4 lo hi := by
    intro lo hi c5 c6 hlo hhi hlo' hhi'
    unfold refN Lib.checkN
    rw [if_neg (show ¬ (c : Int) < 128 by omega), if_neg (show ¬ (c : Int) < 192 by omega), if_neg (show ¬ (c : Int) < 224 by omega), if_neg (show ¬ (c : Int) < 240 by omega), if_pos (show (c : Int) < 248 by omega), if_neg (show ¬ 4 = 2 by decide), if_neg (show ¬ 4 = 3 by decide), if_pos (show 4 = 4 from rfl)]
    repeat' split
    all_goals first | rfl | (exfalso; omega)
  by_cases c2 : c = 224
  · subst c2; exact key 3 160 191 (by decide) (by decide) (by decide) (three _ _ (by omega) (by omega) (by omega) (by omega) (by omega))
  by_cases c3 : c < 237
  · exact key 3 128 191 (by simp [Lib.firstT, show ¬ c < 128 by omega, c0, c1, c2, c3]) (by simp [Lib.firstT, Lib.accLo, show ¬ c < 128 by omega, c0, c1, c2, c3]) (by simp [Lib.firstT, Lib.accHi, show ¬ c < 128 by omega, c0, c1, c2, c3]) (three _ _ (by omega) (by omega) (by omega) (by omega) (by omega))
  by_cases c4 : c = 237
  · subst c4; exact key 3 128 159 (by decide) (by decide) (by decide) (three _ _ (by omega) (by omega) (by omega) (by omega) (by omega))
  by_cases c5 : c < 240
  · exact key 3 128 191 (by simp [Lib.firstT, show ¬ c < 128 by omega, c0, c1, c2, c3, c4, c5]) (by simp [Lib.firstT, Lib.accLo, show ¬ c < 128 by omega, c0, c1, c2, c3, c4, c5]) (by simp [Lib.firstT, Lib.accHi, show ¬ c < 128 by omega, c0, c1, c2, c3, c4, c5]) (three _ _ (by omega) (by omega) (by omega) (by omega) (by omega))
  by_cases c6 : c = 240
  · subst c6; exact key 4 144 191 (by decide) (by decide) (by decide) (four _ _ (by omega) (by omega) (by omega) (by omega) (by omega) (by omega))
  by_cases c7 : c < 244
  · exact key 4 128 191 (by simp [Lib.firstT, show ¬ c < 128 by omega, c0, c1, c2, c3, c4, c5, c6, c7]) (by simp [Lib.firstT, Lib.accLo, show ¬ c < 128 by omega, c0, c1, c2, c3, c4, c5, c6, c7]) (by simp [Lib.firstT, Lib.accHi, show ¬ c < 128 by omega, c0, c1, c2, c3, c4, c5, c6, c7]) (four _ _ (by omega) (by omega) (by omega) (by omega) (by omega) (by omega))
  by_cases c8 : c = 244
  · subst c8; exact key 4 128 143 (by decide) (by decide) (by decide) (four _ _ (by omega) (by omega) (by omega) (by omega) (by omega) (by omega))
  · refine key 1 _ _ (first_hi ⟨c, h0'⟩ (by show 245 ≤ c; omega)) rfl rfl ?_
    unfold refN Lib.checkN
    rw [if_neg (show ¬ (c : Int) < 128 by omega), if_neg (show ¬ (c : Int) < 192 by omega), if_neg (show ¬ (c : Int) < 224 by omega), if_neg (show ¬ (c : Int) < 240 by omega), if_neg (show ¬ 1 = 2 by decide), if_neg (show ¬ 1 = 3 by decide), if_neg (show ¬ 1 = 4 by decide)]
    repeat' split
    all_goals first | rfl | (exfalso; omega)
end Go.Proofs.YtiabggpijomjmaaDoor
namespace Go.Proofs.YtiabggpijomjmaaDoor
open Go.RowKit Print Go.Proofs.YtiabggpijomjmaaDoorW.PrintWords
def tailV (s : ByteArray) (i : Nat) : Bool := Lib.validD (s.data.toList.drop i)
theorem bt_byte (s : ByteArray) (i : Nat) (h : i < s.size) : bt s (i : Int) = (((s.data.toList.drop i).getD 0 0).toNat : Int) := by
  unfold bt
  rw [dif_pos (by simpa using h)]
  have h2 : i < s.data.toList.length := by simpa using h
  rw [List.getD_eq_getElem?_getD, List.getElem?_drop, Nat.add_zero, List.getElem?_eq_getElem h2]
  rfl
theorem bt_byte' (s : ByteArray) (i j : Nat) (h : i + j < s.size) : bt s ((i : Int) + (j : Int)) = (((s.data.toList.drop i).getD j 0).toNat : Int) := by
  unfold bt
  rw [dif_pos (by simpa using (by omega : ((i : Int) + (j : Int)).toNat < s.size))]
  have h2 : i + j < s.data.toList.length := by simpa using h
  rw [List.getD_eq_getElem?_getD, List.getElem?_drop, List.getElem?_eq_getElem h2]
  rfl
theorem tailV_end (s : ByteArray) (i : Nat) (h : s.size ≤ i) : tailV s i = true := by
  unfold tailV
  rw [List.drop_eq_nil_of_le (by simpa using h)]
  rfl
/-- What the document's reference finds at place i, in terms of the rest. -/
theorem tailV_step (s : ByteArray) (i : Nat) (h : i < s.size) :
    tailV s i = match refN ((s.size : Int) - i) (bt s i) (bt s ((i : Int) + (1 : Nat))) (bt s ((i : Int) + (2 : Nat))) (bt s ((i : Int) + (3 : Nat))) with | none => false | some m => tailV s (i + m) := by
  have hlen : (s.data.toList.drop i).length = s.size - i := by simp
  have hne : s.data.toList.drop i ≠ [] := by intro e; rw [e] at hlen; simp at hlen; omega
  by_cases hc : bt s i < 128
  · have : refN ((s.size : Int) - i) (bt s i) (bt s ((i : Int) + (1 : Nat))) (bt s ((i : Int) + (2 : Nat))) (bt s ((i : Int) + (3 : Nat))) = some 1 := by unfold refN; rw [if_pos hc]
    rw [this]
    show Lib.validD (s.data.toList.drop i) = Lib.validD (s.data.toList.drop (i + 1))
    rw [bt_byte s i h] at hc
    rw [Lib.validD_ascii 1 _ (fun b hb => ?_), List.drop_drop]
    cases hl : s.data.toList.drop i with
    | nil => exact absurd hl hne
    | cons x t =>
      rw [hl] at hb hc
      simp at hb hc
      subst hb
      omega
  · have hc' := hc
    rw [bt_byte s i h] at hc'
    unfold tailV
    rw [Lib.validD_lead _ hne (by omega), hlen]
    have e : refN ((s.size : Int) - i) (bt s i) (bt s ((i : Int) + (1 : Nat))) (bt s ((i : Int) + (2 : Nat))) (bt s ((i : Int) + (3 : Nat))) =
        refN ((s.size - i : Nat) : Int) (((s.data.toList.drop i).getD 0 0).toNat : Int) (((s.data.toList.drop i).getD 1 0).toNat : Int) (((s.data.toList.drop i).getD 2 0).toNat : Int) (((s.data.toList.drop i).getD 3 0).toNat : Int) := by
      rw [← bt_byte s i h, show ((s.size - i : Nat) : Int) = (s.size : Int) - i by omega]
      have out : ∀ j, ¬ i + j < s.size → (s.size : Int) - i ≤ j := fun j hj => by omega
      by_cases h1 : i + 1 < s.size
      · rw [← bt_byte' s i 1 h1]
        by_cases h2 : i + 2 < s.size
        · rw [← bt_byte' s i 2 h2]
          by_cases h3 : i + 3 < s.size
          · rw [← bt_byte' s i 3 h3]
          · have := out 3 h3
            unfold refN
            rw [if_pos (show (s.size : Int) - i < 4 by omega), if_pos (show (s.size : Int) - i < 4 by omega)]
        · have := out 2 h2
          unfold refN
          rw [if_pos (show (s.size : Int) - i < 4 by omega), if_pos (show (s.size : Int) - i < 3 by omega), if_pos (show (s.size : Int) - i < 4 by omega), if_pos (show (s.size : Int) - i < 3 by omega)]
      · have := out 1 h1
        unfold refN
        rw [if_pos (show (s.size : Int) - i < 4 by omega), if_pos (show (s.size : Int) - i < 3 by omega), if_pos (show (s.size : Int) - i < 2 by omega), if_pos (show (s.size : Int) - i < 4 by omega), if_pos (show (s.size : Int) - i < 3 by omega), if_pos (show (s.size : Int) - i < 2 by omega)]
    rw [e, refN_check _ _ _ _ _ (by omega) (UInt8.toNat_lt _) (UInt8.toNat_lt _) (UInt8.toNat_lt _) (UInt8.toNat_lt _)]
    generalize Lib.checkN _ _ _ _ _ _ _ = o
    cases o
    · rfl
    · simp only [List.drop_drop]
theorem marqueeref01_Runes.l0_eq (k : Nat) (x0 : ByteArray) (x3 : Int) : marqueeref01_Runes.l0 (k + 1) x0 x3 = if x3 < (x0.size : Int) then (if 0 ≤ x3 then (if (wrap64 (bt x0 x3)) < 128 then (marqueeref01_Runes.j3 k x0 x3 1 0 (wrap64 (bt x0 x3))) else (if (wrap64 (bt x0 x3)) ≥ 192 then (marqueeref01_Runes.j1 k x0 x3 (wrap64 (bt x0 x3)) (decide ((wrap64 (bt x0 x3)) < 224))) else (marqueeref01_Runes.j1 k x0 x3 (wrap64 (bt x0 x3)) false))) else (none)) else (some true) := by
  rw [marqueeref01_Runes.l0]
theorem marqueeref01_Runes.j3_eq (k : Nat) (x0 : ByteArray) (x3 : Int) (x5 : Int) (x6 : Int) (x7 : Int) : marqueeref01_Runes.j3 (k + 1) x0 x3 x5 x6 x7 = if (wrap64 ((x0.size : Int) - x3)) < x5 then (some false) else (marqueeref01_Runes.l1 k x0 x3 x5 x6 x7 1) := by
  rw [marqueeref01_Runes.j3]
theorem marqueeref01_Runes.l1_eq (k : Nat) (x0 : ByteArray) (x3 : Int) (x5 : Int) (x6 : Int) (x7 : Int) (x8 : Int) : marqueeref01_Runes.l1 (k + 1) x0 x3 x5 x6 x7 x8 = if x8 < x5 then (if 0 ≤ (wrap64 (x3 + x8)) then (if (wrap64 (x3 + x8)) < (x0.size : Int) then (if (wrap64 (bt x0 (wrap64 (x3 + x8)))) < 128 then (some false) else (if (wrap64 (bt x0 (wrap64 (x3 + x8)))) ≥ 192 then (some false) else (marqueeref01_Runes.l1 k x0 x3 x5 x6 (wrap64 ((wrap64 ((wrap64 (x7 * 64)) + (wrap64 (bt x0 (wrap64 (x3 + x8)))))) - 128)) (wrap64 (x8 + 1))))) else (none)) else (none)) else (if x7 < x6 then (some false) else (if x7 > 1114111 then (some false) else (if x7 ≥ 55296 then (if x7 < 57344 then (some false) else (marqueeref01_Runes.l0 k x0 (wrap64 (x3 + x5)))) else (marqueeref01_Runes.l0 k x0 (wrap64 (x3 + x5)))))) := by
  rw [marqueeref01_Runes.l1]
theorem marqueeref01_Runes.j1_eq (k : Nat) (x0 : ByteArray) (x3 : Int) (x4 : Int) (x22 : Bool) : marqueeref01_Runes.j1 (k + 1) x0 x3 x4 x22 = if x22 = true then (marqueeref01_Runes.j3 k x0 x3 2 128 (wrap64 (x4 - 192))) else (if x4 ≥ 224 then (marqueeref01_Runes.j2 k x0 x3 x4 (decide (x4 < 240))) else (marqueeref01_Runes.j2 k x0 x3 x4 false)) := by
  rw [marqueeref01_Runes.j1]
theorem marqueeref01_Runes.j2_eq (k : Nat) (x0 : ByteArray) (x3 : Int) (x4 : Int) (x31 : Bool) : marqueeref01_Runes.j2 (k + 1) x0 x3 x4 x31 = if x31 = true then (marqueeref01_Runes.j3 k x0 x3 3 2048 (wrap64 (x4 - 224))) else (if x4 ≥ 240 then (if x4 < 248 then (marqueeref01_Runes.j3 k x0 x3 4 65536 (wrap64 (x4 - 240))) else (some false)) else (some false)) := by
  rw [marqueeref01_Runes.j2]
section
variable (s : ByteArray)
theorem Ev.next {α : Type} {g f : Nat → Option α} {r : α} (k : Ev f r) (h : ∀ k, g (k + 1) = f k) : Ev g r := Ev.step h k
theorem Ev.stops {α : Type} {g : Nat → Option α} {r : α} (h : ∀ k, g (k + 1) = some r) : Ev g r := Ev.step (f := fun _ => some r) h (Ev.now r)
theorem l1_go (i n : Nat) (v : Int) (least : Int) (j : Nat) (hj : j < n) (hi : i + n ≤ s.size) (hv : 0 ≤ v ∧ v < 1000000) (r : Bool) (hs : s.size ≤ 9223372036854775807)
    (h1 : bt s ((i : Int) + (j : Nat)) < 128 ∨ bt s ((i : Int) + (j : Nat)) ≥ 192 → r = false)
    (h2 : 128 ≤ bt s ((i : Int) + (j : Nat)) → bt s ((i : Int) + (j : Nat)) < 192 → Ev (fun k => marqueeref01_Runes.l1 k s i n least (v * 64 + bt s ((i : Int) + (j : Nat)) - 128) ((j + 1 : Nat) : Int)) r) :
    Ev (fun k => marqueeref01_Runes.l1 k s i n least v (j : Int)) r := by
  have hb := bt_range s ((i : Int) + (j : Nat))
  have e1 := Aside0.mk (show wrap64 ((i : Int) + (j : Nat)) = (i : Int) + (j : Nat) from w64 (by omega) (by omega))
  have e2 := Aside0.mk (show wrap64 (bt s ((i : Int) + (j : Nat))) = bt s ((i : Int) + (j : Nat)) from w64 (by omega) (by omega))
  have e3 := Aside0.mk (show wrap64 (v * 64) = v * 64 from w64 (by omega) (by omega))
  have e4 := Aside0.mk (show wrap64 (v * 64 + bt s ((i : Int) + (j : Nat))) = v * 64 + bt s ((i : Int) + (j : Nat)) from w64 (by omega) (by omega))
  have e5 := Aside0.mk (show wrap64 (v * 64 + bt s ((i : Int) + (j : Nat)) - 128) = v * 64 + bt s ((i : Int) + (j : Nat)) - 128 from w64 (by omega) (by omega))
  have e6 := Aside0.mk (show wrap64 ((j : Int) + 1) = ((j + 1 : Nat) : Int) from by rw [w64 (by omega) (by omega)]; omega)
  by_cases c1 : bt s ((i : Int) + (j : Nat)) < 128
  · rw [h1 (.inl c1)]
    refine Ev.stops (fun k => ?_)
    rw [marqueeref01_Runes.l1_eq]
    rw [if_pos (by omega), e1.out, if_pos (by omega), if_pos (by omega), e2.out, if_pos c1]
  · by_cases c2 : bt s ((i : Int) + (j : Nat)) ≥ 192
    · rw [h1 (.inr c2)]
      refine Ev.stops (fun k => ?_)
      rw [marqueeref01_Runes.l1_eq]
      rw [if_pos (by omega), e1.out, if_pos (by omega), if_pos (by omega), e2.out, if_neg c1, if_pos c2]
    · refine Ev.next (h2 (by omega) (by omega)) (fun k => ?_)
      rw [marqueeref01_Runes.l1_eq]
      rw [if_pos (by omega), e1.out, if_pos (by omega), if_pos (by omega), e2.out, if_neg c1, if_neg c2, e3.out, e4.out, e5.out, e6.out]
theorem l1_end (i n : Nat) (v : Int) (least : Int) (hi : i + n ≤ s.size) (r : Bool) (hs : s.size ≤ 9223372036854775807)
    (h1 : (v < least ∨ v > 1114111 ∨ (v ≥ 55296 ∧ v < 57344)) → r = false)
    (h2 : ¬ (v < least ∨ v > 1114111 ∨ (v ≥ 55296 ∧ v < 57344)) → Ev (fun k => marqueeref01_Runes.l0 k s ((i + n : Nat) : Int)) r) :
    Ev (fun k => marqueeref01_Runes.l1 k s i n least v (n : Int)) r := by
  have e1 := Aside0.mk (show wrap64 ((i : Int) + (n : Int)) = ((i + n : Nat) : Int) from by rw [w64 (by omega) (by omega)]; omega)
  by_cases c : (v < least ∨ v > 1114111 ∨ (v ≥ 55296 ∧ v < 57344))
  · rw [h1 c]
    refine Ev.stops (fun k => ?_)
    rw [marqueeref01_Runes.l1_eq]
    rw [if_neg (by omega)]
    repeat' split
    all_goals first | rfl | (exfalso; omega)
  · refine Ev.next (h2 c) (fun k => ?_)
    rw [marqueeref01_Runes.l1_eq]
    rw [if_neg (by omega), if_neg (by omega), if_neg (by omega), e1.out]
    repeat' split
    all_goals first | rfl | (exfalso; omega)
theorem j3_go (i n : Nat) (least v : Int) (r : Bool) (hi : i < s.size) (hs : s.size ≤ 9223372036854775807)
    (h1 : (s.size : Int) - i < n → r = false) (h2 : i + n ≤ s.size → Ev (fun k => marqueeref01_Runes.l1 k s i n least v ((1 : Nat) : Int)) r) :
    Ev (fun k => marqueeref01_Runes.j3 k s i n least v) r := by
  have e1 := Aside0.mk (show wrap64 ((s.size : Int) - i) = (s.size : Int) - i from w64 (by omega) (by omega))
  by_cases c : (s.size : Int) - i < n
  · rw [h1 c]
    refine Ev.stops (fun k => ?_)
    rw [marqueeref01_Runes.j3_eq]
    rw [e1.out, if_pos c]
  · refine Ev.next (h2 (by omega)) (fun k => ?_)
    rw [marqueeref01_Runes.j3_eq]
    rw [e1.out, if_neg c]; rfl
theorem runes_from (hs : s.size ≤ 9223372036854775807) : ∀ (d i : Nat), s.size - i ≤ d → i ≤ s.size → Ev (fun k => marqueeref01_Runes.l0 k s (i : Int)) (tailV s i)
  | 0, i, hd, hi => by
    rw [tailV_end s i (by omega)]
    refine Ev.stops (fun k => ?_)
    rw [marqueeref01_Runes.l0_eq]
    rw [if_neg (by omega)]
  | d + 1, i, hd, hi => by
    by_cases hlt : i < s.size
    · have hb := bt_range s i
      have hV := tailV_step s i hlt
      have IH : ∀ m, 0 < m → i + m ≤ s.size → Ev (fun k => marqueeref01_Runes.l0 k s ((i + m : Nat) : Int)) (tailV s (i + m)) := fun m h0 hm => runes_from hs d (i + m) (by omega) hm
      have e1 := Aside0.mk (show wrap64 (bt s i) = bt s i from w64 (by omega) (by omega))
      obtain ⟨c, hc⟩ : ∃ c, bt s i = c := ⟨_, rfl⟩
      have bb1 := bt_range s ((i : Int) + (1 : Nat))
      have bb2 := bt_range s ((i : Int) + (2 : Nat))
      have bb3 := bt_range s ((i : Int) + (3 : Nat))
      obtain ⟨b1, hb1⟩ : ∃ b, bt s ((i : Int) + (1 : Nat)) = b := ⟨_, rfl⟩
      obtain ⟨b2, hb2⟩ : ∃ b, bt s ((i : Int) + (2 : Nat)) = b := ⟨_, rfl⟩
      obtain ⟨b3, hb3⟩ : ∃ b, bt s ((i : Int) + (3 : Nat)) = b := ⟨_, rfl⟩
      rw [hc] at hb hV e1
      rw [hb1] at hV bb1
      rw [hb2] at hV bb2
      rw [hb3] at hV bb3
      by_cases c0 : c < 128
      · have hr : refN ((s.size : Int) - i) c b1 b2 b3 = some 1 := by unfold refN; rw [if_pos c0]
        rw [hr] at hV
        rw [hV]
        have hl0 : ∀ k, marqueeref01_Runes.l0 (k + 1) s (i : Int) = marqueeref01_Runes.j3 k s i 1 0 c := fun k => by
          rw [marqueeref01_Runes.l0_eq]
          rw [if_pos (by omega), if_pos (by omega), hc, e1.out, if_pos c0]
        refine Ev.next (j3_go s i 1 0 c _ hlt hs (fun h => by omega) (fun h => ?_)) hl0
        refine l1_end s i 1 c 0 (by omega) _ hs (fun h => by omega) (fun _ => IH 1 (by omega) (by omega))
      · by_cases c1 : c < 192
        · have hr : refN ((s.size : Int) - i) c b1 b2 b3 = none := by unfold refN; rw [if_neg c0, if_pos c1]
          rw [hr] at hV
          rw [hV]
          have h1 : ∀ k, marqueeref01_Runes.l0 (k + 1) s (i : Int) = marqueeref01_Runes.j1 k s i c false := fun k => by
            rw [marqueeref01_Runes.l0_eq]
            rw [if_pos (by omega), if_pos (by omega), hc, e1.out, if_neg c0, if_neg (by omega)]
          have h2 : ∀ k, marqueeref01_Runes.j1 (k + 1) s (i : Int) c false = marqueeref01_Runes.j2 k s i c false := fun k => by
            rw [marqueeref01_Runes.j1_eq]
            rw [if_neg (by decide), if_neg (by omega)]
          have h3 : ∀ k, marqueeref01_Runes.j2 (k + 1) s (i : Int) c false = some false := fun k => by
            rw [marqueeref01_Runes.j2_eq]
            rw [if_neg (by decide), if_neg (by omega)]
          exact Ev.next (Ev.next (Ev.stops h3) h2) h1
        · have h1 : ∀ k, marqueeref01_Runes.l0 (k + 1) s (i : Int) = marqueeref01_Runes.j1 k s i c (decide (c < 224)) := fun k => by
            rw [marqueeref01_Runes.l0_eq]
            rw [if_pos (by omega), if_pos (by omega), hc, e1.out, if_neg c0, if_pos (by omega)]
          refine Ev.next ?_ h1
          by_cases c2 : c < 224
          · have hr : refN ((s.size : Int) - i) c b1 b2 b3 = (if (s.size : Int) - i < 2 then none else if b1 < 128 then none else if b1 ≥ 192 then none else if (c - 192) * 64 + b1 - 128 < 128 then none else some 2) := by unfold refN; rw [if_neg c0, if_neg c1, if_pos c2]
            rw [hr] at hV
            have e2 := Aside0.mk (show wrap64 (c - 192) = c - 192 from w64 (by omega) (by omega))
            have h2 : ∀ k, marqueeref01_Runes.j1 (k + 1) s (i : Int) c (decide (c < 224)) = marqueeref01_Runes.j3 k s i 2 128 (c - 192) := fun k => by
              rw [marqueeref01_Runes.j1_eq]
              rw [if_pos (decide_eq_true c2), e2.out]
            refine Ev.next (j3_go s i 2 128 (c - 192) _ hlt hs (fun h => ?_) (fun h => ?_)) h2
            · rw [hV, if_pos (by omega)]
            · rw [if_neg (by omega)] at hV
              refine l1_go s i 2 (c - 192) 128 1 (by omega) h (by omega) _ hs (fun hh => ?_) (fun ha hb => ?_)
              · rw [hb1] at hh
                rcases hh with hh | hh
                · rw [hV, if_pos hh]
                · rw [hV, if_neg (by omega), if_pos hh]
              · rw [hb1] at ha hb ⊢
                rw [if_neg (by omega), if_neg (by omega)] at hV
                refine l1_end s i 2 _ 128 h _ hs (fun hh => ?_) (fun hh => ?_)
                · rw [hV, if_pos (by omega)]
                · rw [hV, if_neg (by omega)]; exact IH 2 (by omega) h
          · have h2 : ∀ k, marqueeref01_Runes.j1 (k + 1) s (i : Int) c (decide (c < 224)) = marqueeref01_Runes.j2 k s i c (decide (c < 240)) := fun k => by
              rw [marqueeref01_Runes.j1_eq]
              rw [if_neg (by simpa using c2), if_pos (by omega)]
            refine Ev.next ?_ h2
            by_cases c3 : c < 240
            · have hr : refN ((s.size : Int) - i) c b1 b2 b3 = (if (s.size : Int) - i < 3 then none else if b1 < 128 then none else if b1 ≥ 192 then none else if b2 < 128 then none else if b2 ≥ 192 then none
    else if ((c - 224) * 64 + b1 - 128) * 64 + b2 - 128 < 2048 then none else if ((c - 224) * 64 + b1 - 128) * 64 + b2 - 128 ≥ 55296 ∧ ((c - 224) * 64 + b1 - 128) * 64 + b2 - 128 < 57344 then none else some 3) := by unfold refN; rw [if_neg c0, if_neg c1, if_neg c2, if_pos c3]
              rw [hr] at hV
              have e2 := Aside0.mk (show wrap64 (c - 224) = c - 224 from w64 (by omega) (by omega))
              have h3 : ∀ k, marqueeref01_Runes.j2 (k + 1) s (i : Int) c (decide (c < 240)) = marqueeref01_Runes.j3 k s i 3 2048 (c - 224) := fun k => by
                rw [marqueeref01_Runes.j2_eq]
                rw [if_pos (decide_eq_true c3), e2.out]
              refine Ev.next (j3_go s i 3 2048 (c - 224) _ hlt hs (fun h => ?_) (fun h => ?_)) h3
              · rw [hV, if_pos (by omega)]
              · rw [if_neg (by omega)] at hV
                refine l1_go s i 3 (c - 224) 2048 1 (by omega) h (by omega) _ hs (fun hh => ?_) (fun ha hb => ?_)
                · rw [hb1] at hh
                  rcases hh with hh | hh
                  · rw [hV, if_pos hh]
                  · rw [hV, if_neg (by omega), if_pos hh]
                · rw [hb1] at ha hb ⊢
                  rw [if_neg (by omega), if_neg (by omega)] at hV
                  refine l1_go s i 3 _ 2048 2 (by omega) h (by omega) _ hs (fun hh => ?_) (fun ha2 hbb2 => ?_)
                  · rw [hb2] at hh
                    rcases hh with hh | hh
                    · rw [hV, if_pos hh]
                    · rw [hV, if_neg (by omega), if_pos hh]
                  · rw [hb2] at ha2 hbb2 ⊢
                    rw [if_neg (by omega), if_neg (by omega)] at hV
                    refine l1_end s i 3 _ 2048 h _ hs (fun hh => ?_) (fun hh => ?_)
                    · rcases hh with hh | hh | hh
                      · rw [hV, if_pos hh]
                      · exfalso; omega
                      · by_cases hx : ((c - 224) * 64 + b1 - 128) * 64 + b2 - 128 < 2048
                        · rw [hV, if_pos hx]
                        · rw [hV, if_neg hx, if_pos hh]
                    · rw [hV, if_neg (by omega), if_neg (by omega)]; exact IH 3 (by omega) h
            · have h3 : ∀ k, marqueeref01_Runes.j2 (k + 1) s (i : Int) c (decide (c < 240)) = if c < 248 then marqueeref01_Runes.j3 k s i 4 65536 (wrap64 (c - 240)) else some false := fun k => by
                rw [marqueeref01_Runes.j2_eq]
                rw [if_neg (by simpa using c3), if_pos (by omega)]
              by_cases c4 : c < 248
              · have hr : refN ((s.size : Int) - i) c b1 b2 b3 = (if (s.size : Int) - i < 4 then none else if b1 < 128 then none else if b1 ≥ 192 then none else if b2 < 128 then none else if b2 ≥ 192 then none else if b3 < 128 then none else if b3 ≥ 192 then none
    else if (((c - 240) * 64 + b1 - 128) * 64 + b2 - 128) * 64 + b3 - 128 < 65536 then none else if (((c - 240) * 64 + b1 - 128) * 64 + b2 - 128) * 64 + b3 - 128 > 1114111 then none else some 4) := by unfold refN; rw [if_neg c0, if_neg c1, if_neg c2, if_neg c3, if_pos c4]
                rw [hr] at hV
                have e2 := Aside0.mk (show wrap64 (c - 240) = c - 240 from w64 (by omega) (by omega))
                have h4 : ∀ k, marqueeref01_Runes.j2 (k + 1) s (i : Int) c (decide (c < 240)) = marqueeref01_Runes.j3 k s i 4 65536 (c - 240) := fun k => by rw [h3, if_pos c4, e2.out]
                refine Ev.next (j3_go s i 4 65536 (c - 240) _ hlt hs (fun h => ?_) (fun h => ?_)) h4
                · rw [hV, if_pos (by omega)]
                · rw [if_neg (by omega)] at hV
                  refine l1_go s i 4 (c - 240) 65536 1 (by omega) h (by omega) _ hs (fun hh => ?_) (fun ha hb => ?_)
                  · rw [hb1] at hh
                    rcases hh with hh | hh
                    · rw [hV, if_pos hh]
                    · rw [hV, if_neg (by omega), if_pos hh]
                  · rw [hb1] at ha hb ⊢
                    rw [if_neg (by omega), if_neg (by omega)] at hV
                    refine l1_go s i 4 _ 65536 2 (by omega) h (by omega) _ hs (fun hh => ?_) (fun ha2 hbb2 => ?_)
                    · rw [hb2] at hh
                      rcases hh with hh | hh
                      · rw [hV, if_pos hh]
                      · rw [hV, if_neg (by omega), if_pos hh]
                    · rw [hb2] at ha2 hbb2 ⊢
                      rw [if_neg (by omega), if_neg (by omega)] at hV
                      refine l1_go s i 4 _ 65536 3 (by omega) h (by omega) _ hs (fun hh => ?_) (fun ha3 hbb3 => ?_)
                      · rw [hb3] at hh
                        rcases hh with hh | hh
                        · rw [hV, if_pos hh]
                        · rw [hV, if_neg (by omega), if_pos hh]
                      · rw [hb3] at ha3 hbb3 ⊢
                        rw [if_neg (by omega), if_neg (by omega)] at hV
                        refine l1_end s i 4 _ 65536 h _ hs (fun hh => ?_) (fun hh => ?_)
                        · rcases hh with hh | hh | hh
                          · rw [hV, if_pos hh]
                          · rw [hV, if_neg (by omega), if_pos hh]
                          · rw [hV, if_pos (by omega)]
                        · rw [hV, if_neg (by omega), if_neg (by omega)]; exact IH 4 (by omega) h
              · have hr : refN ((s.size : Int) - i) c b1 b2 b3 = none := by unfold refN; rw [if_neg c0, if_neg c1, if_neg c2, if_neg c3, if_neg c4]
                rw [hr] at hV
                rw [hV]
                exact Ev.stops (fun k => by rw [h3, if_neg c4])
    · rw [tailV_end s i (by omega)]
      refine Ev.stops (fun k => ?_)
      rw [marqueeref01_Runes.l0_eq]
      rw [if_neg (by omega)]
theorem runes_ev (hs : s.size ≤ 9223372036854775807) : Ev (fun k => marqueeref01_Runes.f k s) (Lib.validD s.data.toList) := runes_from s hs s.size 0 (by omega) (by omega)
end
end Go.Proofs.YtiabggpijomjmaaDoor
namespace Go.Proofs.YtiabggpijomjmaaDoor
open Go.RowKit Print Go.Proofs.YtiabggpijomjmaaDoorW.PrintWords
theorem may_ev (a n : Int) (s : ByteArray) (hs : s.size ≤ 9223372036854775807) : Ev (fun k => marqueeref01_May.f k a n s) (okV a n s) := by
  have hR := runes_ev s hs
  have he : (s.toList == ([] : List UInt8)) = s.toList.isEmpty := by cases s.toList <;> rfl
  have h0 : ∀ (b : Bool) k, b = true → marqueeref01_May.j0 (k + 1) a b a n s = some (s.toList.isEmpty) := fun b k hb => by
    rw [marqueeref01_May.j0, if_pos hb, he]
  by_cases a0 : a = 0
  · subst a0
    refine Ev.congr (f := fun _ => some (okV 0 n s)) (fun k => ?_) (Ev.now _)
    unfold marqueeref01_May.f okV
    rw [if_pos rfl, if_pos rfl, he]
    by_cases hn : n = 0 <;> simp [hn]
  · by_cases a1 : a = 1
    · subst a1
      refine Ev.congr (f := fun _ => some (okV 1 n s)) (fun k => ?_) (Ev.now _)
      unfold marqueeref01_May.f okV
      have h10 : ¬ (1 : Int) = 0 := by decide
      have h11 : (1 : Int) = 1 := rfl
      rw [if_neg h10, if_pos h11, if_neg h10, if_pos h11]
      by_cases hl : s.toList = []
      · rw [if_pos hl]
        by_cases hn : n = 0
        · simp [hn, hl]
        · simp [hn, hl]; rfl
      · rw [if_neg hl]
        have : s.toList.isEmpty = false := by simpa using hl
        rw [this]; rfl
    · by_cases a2 : a = 2
      · subst a2
        refine Ev.stops (fun k => ?_)
        unfold marqueeref01_May.f okV
        rw [if_neg (by decide), if_neg (by decide), if_pos rfl, if_neg (by decide), if_neg (by decide), if_pos rfl]
        exact h0 _ k rfl
      · by_cases a3 : a = 3
        · subst a3
          refine Ev.stops (fun k => ?_)
          unfold marqueeref01_May.f okV
          rw [if_neg (by decide), if_neg (by decide), if_neg (by decide), if_neg (by decide), if_neg (by decide), if_neg (by decide), if_pos rfl]
          exact h0 _ k rfl
        · have hf : ∀ k, marqueeref01_May.f k a n s = marqueeref01_May.j0 k a false a n s := fun k => by
            unfold marqueeref01_May.f
            rw [if_neg a0, if_neg a1, if_neg a2, show (a == 3) = false by simpa using a3]
          refine Ev.congr hf ?_
          by_cases a4 : a = 4
          · subst a4
            have e : okV 4 n s = (decide (n = 0) && decide (s.size ≤ 1024) && Lib.validD s.data.toList) := by
              unfold okV
              rw [if_neg (by decide), if_neg (by decide), if_neg (by decide), if_neg (by decide), if_pos rfl]
            rw [e]
            by_cases hn : n = 0
            · by_cases hz : s.size ≤ 1024
              · refine Ev.step (f := fun k => (marqueeref01_Runes.f k s).bind fun t => some t) (fun k => ?_) ?_
                · rw [marqueeref01_May.j0, if_neg (by decide), if_pos rfl, if_pos hn, if_pos (by omega)]
                · have : (decide (n = 0) && decide (s.size ≤ 1024) && Lib.validD s.data.toList) = Lib.validD s.data.toList := by simp [hn, hz]
                  rw [this]
                  exact Ev.bind hR (Ev.now _)
              · refine Ev.stops (fun k => ?_)
                rw [marqueeref01_May.j0, if_neg (by decide), if_pos rfl, if_pos hn, if_neg (by omega)]
                simp [hz]
            · refine Ev.stops (fun k => ?_)
              rw [marqueeref01_May.j0, if_neg (by decide), if_pos rfl, if_neg hn]
              simp [hn]
          · refine Ev.stops (fun k => ?_)
            rw [marqueeref01_May.j0, if_neg (by decide), if_neg a4]
            unfold okV
            rw [if_neg a0, if_neg a1, if_neg a2, if_neg a3, if_neg a4]
open Classical in
theorem wrap_succ {i n : Nat} (h : i < n) (hn : n ≤ 9223372036854775807) : wrap64 ((i : Int) + 1) = ((i + 1 : Nat) : Int) := by rw [w64 (by omega) (by omega)]; omega
def valEq (x y : S53) : Bool := (x.f0 == y.f0) && ((x.f1 == y.f1) && (x.f2.toList == y.f2.toList))
def valsA (l m : List S53) : Nat → Nat → Bool
  | 0, _ => true
  | d + 1, i => valEq (rd_T53 l i) (rd_T53 m i) && valsA l m d (i + 1)
def rowV (l m : List S53) : Bool := if l.length = m.length then valsA l m l.length 0 else false
theorem valsA_self (l : List S53) : ∀ d i, valsA l l d i = true
  | 0, _ => rfl
  | d + 1, i => by unfold valsA; rw [valsA_self l d (i + 1)]; simp [valEq]
theorem rowV_self (l : List S53) : rowV l l = true := by unfold rowV; rw [if_pos rfl]; exact valsA_self l _ _
section
variable (l m : List S53) (hl : l.length ≤ 9223372036854775807) (he : l.length = m.length)
include hl he
theorem rVals_from : ∀ (d i : Nat), i + d = l.length → Ev (fun k => marqueeref03_SameRow.l0 k l m (i : Int)) (valsA l m d i)
  | 0, i, h => by
    refine Ev.stops (fun k => ?_)
    rw [marqueeref03_SameRow.l0, if_neg (by omega)]; rfl
  | d + 1, i, h => by
    have hl' := hl
    have e1 := wrap_succ (show i < l.length by omega) (by omega)
    have IH := rVals_from d (i + 1) (by omega)
    have step : ∀ k, marqueeref03_SameRow.l0 (k + 1) l m (i : Int) = if valEq (rd_T53 l i) (rd_T53 m i) = true then marqueeref03_SameRow.l0 k l m ((i + 1 : Nat) : Int) else some false := fun k => by
      rw [marqueeref03_SameRow.l0, if_pos (by omega), if_pos (by omega), if_pos (by omega), e1]
      unfold valEq
      cases ((rd_T53 l i).f0 == (rd_T53 m i).f0) <;> cases ((rd_T53 l i).f1 == (rd_T53 m i).f1) <;> cases ((rd_T53 l i).f2.toList == (rd_T53 m i).f2.toList) <;> rfl
    unfold valsA
    cases c : valEq (rd_T53 l i) (rd_T53 m i)
    · rw [Bool.false_and]
      exact Ev.stops (fun k => by rw [step, if_neg (by rw [c]; decide)])
    · rw [Bool.true_and]
      exact Ev.next IH (fun k => by rw [step, if_pos c])
end
theorem rRow_ev (l m : List S53) (hl : l.length ≤ 9223372036854775807) : Ev (fun k => marqueeref03_SameRow.f k l m) (rowV l m) := by
  unfold marqueeref03_SameRow.f rowV
  by_cases h : l.length = m.length
  · rw [if_pos h]
    exact Ev.congr (fun k => by rw [if_pos (by omega)]; rfl) (rVals_from l m hl h l.length 0 (by omega))
  · rw [if_neg h]
    exact Ev.congr (fun k => by rw [if_neg (by omega)]) (Ev.now _)
end Go.Proofs.YtiabggpijomjmaaDoor
namespace Go.Proofs.YtiabggpijomjmaaDoor
open Go.RowKit Print Go.Proofs.YtiabggpijomjmaaDoorW.PrintWords Go.Proofs.YtiabggpijomjmaaDoorW.PrintLast Go.Proofs.YtiabggpijomjmaaDoorW.PrintMore
theorem and255 (a : Int) (h : 0 ≤ a) (h2 : a < 18446744073709551616) : Go.bits .and .u64 a 255 = a % 256 := by
  obtain ⟨n, rfl⟩ := Int.eq_ofNat_of_zero_le h
  have h' := bits_and_u64_nat n 255 (by omega) (by omega)
  have e : n &&& 255 = n % 256 := Nat.and_two_pow_sub_one_eq_mod n 8
  rw [e] at h'
  exact h'.trans (by omega)
theorem and255i (a : Int) (h : 0 ≤ a) (h2 : a < 9223372036854775808) : Go.bits .and .i64 a 255 = a % 256 := by
  obtain ⟨n, rfl⟩ := Int.eq_ofNat_of_zero_le h
  have e : n &&& 255 = n % 256 := Nat.and_two_pow_sub_one_eq_mod n 8
  have h1 : (BitVec.ofInt 64 (n : Int)).toNat = n := by
    rw [BitVec.ofInt_natCast, BitVec.toNat_ofNat]; exact Nat.mod_eq_of_lt (by omega)
  have h3 : (BitVec.ofInt 64 (255 : Int)).toNat = 255 := by decide
  show IntKind.i64.wrap ((BitVec.ofInt 64 (n : Int) &&& BitVec.ofInt 64 (255 : Int)).toNat : Int) = _
  rw [BitVec.toNat_and, h1, h3, e, i64_w, w64 (by omega) (by omega)]
  omega
def fixF (n : Int) : Nat → Nat → List Int
  | 0, _ => []
  | d + 1, i => (n / 256 ^ i) % 256 :: fixF n d (i + 1)
theorem fixF_len (n : Int) : ∀ d i, (fixF n d i).length = d
  | 0, _ => rfl
  | d + 1, i => by rw [fixF, List.length_cons, fixF_len n d]
theorem shr8 (n : Int) (i : Nat) (hi : i < 8) : shr .u64 n (wrap64 (8 * (i : Int))) = n / 256 ^ i := by
  rw [w64 (by omega) (by omega)]
  rcases (by omega : i = 0 ∨ i = 1 ∨ i = 2 ∨ i = 3 ∨ i = 4 ∨ i = 5 ∨ i = 6 ∨ i = 7) with rfl | rfl | rfl | rfl | rfl | rfl | rfl | rfl <;> rfl
theorem div256 (n : Int) (i : Nat) (hi : i < 8) : n / 256 ^ i / 256 = n / 256 ^ (i + 1) := by
  rcases (by omega : i = 0 ∨ i = 1 ∨ i = 2 ∨ i = 3 ∨ i = 4 ∨ i = 5 ∨ i = 6 ∨ i = 7) with rfl | rfl | rfl | rfl | rfl | rfl | rfl | rfl <;> (simp only [Int.reducePow, Nat.reduceAdd]; omega)
theorem div_in (n : Int) (h : 0 ≤ n) (h2 : n < 18446744073709551616) (i : Nat) (hi : i < 8) : 0 ≤ n / 256 ^ i ∧ n / 256 ^ i < 18446744073709551616 := by
  rcases (by omega : i = 0 ∨ i = 1 ∨ i = 2 ∨ i = 3 ∨ i = 4 ∨ i = 5 ∨ i = 6 ∨ i = 7) with rfl | rfl | rfl | rfl | rfl | rfl | rfl | rfl <;> (simp only [Int.reducePow]; omega)
theorem kfix (n : Int) (c : Nat) (hc : c ≤ 8) : ∀ d i acc, i + d = c → acc.length + d < 140737488355328 → Ev (fun k => key_fixed.l0 k n (c : Int) acc (i : Int)) (acc ++ fixF n d i)
  | 0, i, acc, h, _ => by
    refine Ev.stops (fun k => ?_)
    rw [key_fixed.l0, if_neg (by omega)]; simp [fixF]
  | d + 1, i, acc, h, hb => by
    have e := shr8 n i (by omega)
    have e0 : (0 : Int) ≤ wrap64 (8 * (i : Int)) := by rw [w64 (by omega) (by omega)]; omega
    have e1 := wrap_succ (show i < c by omega) (by omega)
    have IH := kfix n c hc d (i + 1) (acc ++ [(n / 256 ^ i) % 256]) (by omega) (by simp; omega)
    rw [List.append_assoc] at IH
    exact Ev.next IH (fun k => by rw [key_fixed.l0, if_pos (by omega), if_pos e0, if_pos (by omega), e, e1])
theorem kfix_ev (n : Int) (c : Nat) (hc : c ≤ 8) : Ev (fun k => key_fixed.f k n (c : Int)) (fixF n c 0) := kfix n c hc c 0 [] (by omega) (by simp; omega)
theorem key_Encode.l0_eq (k : Nat) (x4 : List Int) (x7 : List (S53)) (x8 : Int) (x9 : Int) : key_Encode.l0 (k + 1) x4 x7 x8 x9 = if x9 < x8 then (if 0 ≤ x9 then (if x9 < (x7.length : Int) then ((value_Check.f ((rd_T53 x7 x9).f0) ((rd_T53 x7 x9).f1) ((rd_T53 x7 x9).f2)).bind fun t109 => (if t109 = 0 then (if x4.length < 140737488355328 then ((some (x4 ++ [((rd_T53 x7 x9).f0) % 256] : List Int)).bind fun y110 => (if ((rd_T53 x7 x9).f0) = 1 then (if y110.length < 140737488355328 then (key_Encode.l0 k (y110 ++ [((rd_T53 x7 x9).f1) % 256]) x7 x8 (wrap64 (x9 + 1))) else (none)) else (if ((rd_T53 x7 x9).f0) = 2 then (key_Encode.j1 k y110 x7 x8 x9 ((rd_T53 x7 x9).f0) (((rd_T53 x7 x9).f0) == 2) ((rd_T53 x7 x9).f0) ((rd_T53 x7 x9).f1) ((rd_T53 x7 x9).f2)) else (key_Encode.j1 k y110 x7 x8 x9 ((rd_T53 x7 x9).f0) (((rd_T53 x7 x9).f0) == 3) ((rd_T53 x7 x9).f0) ((rd_T53 x7 x9).f1) ((rd_T53 x7 x9).f2))))) else (none)) else (some ((⟨#[]⟩ : ByteArray), 31)))) else (none)) else (none)) else (some (strOfNums x4, 0)) := by
  rw [key_Encode.l0]
theorem key_Encode.j1_eq (k : Nat) (x4 : List Int) (x7 : List (S53)) (x8 : Int) (x9 : Int) (x23 : Int) (x32 : Bool) (x109000 : Int) (x109001 : Int) (x109002 : ByteArray) : key_Encode.j1 (k + 1) x4 x7 x8 x9 x23 x32 x109000 x109001 x109002 = if x32 = true then ((key_fixed.f k (IntKind.u64.wrap (x109001)) 8).bind fun t116 => (if x4.length + t116.length < 140737488355328 then (key_Encode.l0 k (x4 ++ t116) x7 x8 (wrap64 (x9 + 1))) else (none))) else (if x23 = 4 then ((key_fixed.f k (IntKind.u64.wrap ((x109002.size : Int))) 2).bind fun t122 => (if x4.length + t122.length < 140737488355328 then ((some (x4 ++ t122 : List Int)).bind fun y125 => (if y125.length + x109002.size < 140737488355328 then (key_Encode.l0 k (y125 ++ bytesOf x109002) x7 x8 (wrap64 (x9 + 1))) else (none))) else (none))) else (key_Encode.l0 k x4 x7 x8 (wrap64 (x9 + 1)))) := by
  rw [key_Encode.j1]
theorem marqueeref04_Encode.l0_eq (k : Nat) (x0 : List (S53)) (x4 : List Int) (x5 : Int) : marqueeref04_Encode.l0 (k + 1) x0 x4 x5 = if x5 < (x0.length : Int) then (if 0 ≤ x5 then ((marqueeref01_May.f k ((rd_T53 x0 x5).f0) ((rd_T53 x0 x5).f1) ((rd_T53 x0 x5).f2)).bind fun t135 => (if t135 = true then (if x4.length < 140737488355328 then ((some (x4 ++ [((rd_T53 x0 x5).f0) % 256] : List Int)).bind fun y136 => (if ((rd_T53 x0 x5).f0) = 1 then (if y136.length < 140737488355328 then (marqueeref04_Encode.l0 k x0 (y136 ++ [((rd_T53 x0 x5).f1) % 256]) (wrap64 (x5 + 1))) else (none)) else (if ((rd_T53 x0 x5).f0) = 2 then (marqueeref04_Encode.j1 k x0 y136 x5 ((rd_T53 x0 x5).f0) (((rd_T53 x0 x5).f0) == 2) ((rd_T53 x0 x5).f0) ((rd_T53 x0 x5).f1) ((rd_T53 x0 x5).f2)) else (marqueeref04_Encode.j1 k x0 y136 x5 ((rd_T53 x0 x5).f0) (((rd_T53 x0 x5).f0) == 3) ((rd_T53 x0 x5).f0) ((rd_T53 x0 x5).f1) ((rd_T53 x0 x5).f2))))) else (none)) else (some ((⟨#[]⟩ : ByteArray), 31)))) else (none)) else (some (strOfNums x4, 0)) := by
  rw [marqueeref04_Encode.l0]
theorem marqueeref04_Encode.j1_eq (k : Nat) (x0 : List (S53)) (x4 : List Int) (x5 : Int) (x29 : Int) (x38 : Bool) (x135000 : Int) (x135001 : Int) (x135002 : ByteArray) : marqueeref04_Encode.j1 (k + 1) x0 x4 x5 x29 x38 x135000 x135001 x135002 = if x38 = true then (marqueeref04_Encode.l1 k x0 x4 x5 (IntKind.u64.wrap (x135001)) 0) else (if x29 = 4 then ((some (([(Go.bits .and .i64 (x135002.size : Int) 255) % 256, ((x135002.size : Int) / 256) % 256] : List Int) : List Int)).bind fun y145 => (if x4.length + y145.length < 140737488355328 then ((some (x4 ++ y145 : List Int)).bind fun y148 => (if y148.length + x135002.size < 140737488355328 then (marqueeref04_Encode.l0 k x0 (y148 ++ bytesOf x135002) (wrap64 (x5 + 1))) else (none))) else (none))) else (marqueeref04_Encode.l0 k x0 x4 (wrap64 (x5 + 1)))) := by
  rw [marqueeref04_Encode.j1]
theorem marqueeref04_Encode.l1_eq (k : Nat) (x0 : List (S53)) (x4 : List Int) (x5 : Int) (x7 : Int) (x8 : Int) : marqueeref04_Encode.l1 (k + 1) x0 x4 x5 x7 x8 = if x8 < 8 then (if x4.length < 140737488355328 then (marqueeref04_Encode.l1 k x0 (x4 ++ [(Go.bits .and .u64 x7 255) % 256]) x5 (x7 / 256) (wrap64 (x8 + 1))) else (none)) else (marqueeref04_Encode.l0 k x0 x4 (wrap64 (x5 + 1))) := by
  rw [marqueeref04_Encode.l1]
theorem rfix (l : List S53) (n : Int) (hn : 0 ≤ n) (hn2 : n < 18446744073709551616) (x5 : Int) (r : ByteArray × Int) : ∀ d j acc, j + d = 8 → acc.length + d < 140737488355328 →
    Ev (fun k => marqueeref04_Encode.l0 k l (acc ++ fixF n d j) (wrap64 (x5 + 1))) r → Ev (fun k => marqueeref04_Encode.l1 k l acc x5 (n / 256 ^ j) (j : Int)) r
  | 0, j, acc, h, _, k => by
    rw [fixF, List.append_nil] at k
    exact Ev.next k (fun k => by rw [marqueeref04_Encode.l1_eq, if_neg (by omega)])
  | d + 1, j, acc, h, hb, k => by
    have hd := div_in n hn hn2 j (by omega)
    have e : Go.bits .and .u64 (n / 256 ^ j) 255 % 256 = (n / 256 ^ j) % 256 := by rw [and255 _ hd.1 hd.2]; omega
    have e1 := wrap_succ (show j < 8 by omega) (by omega)
    have e2 := div256 n j (by omega)
    have IH := rfix l n hn hn2 x5 r d (j + 1) (acc ++ [(n / 256 ^ j) % 256]) (by omega) (by simp; omega) (by rw [List.append_assoc]; exact k)
    exact Ev.next IH (fun k => by rw [marqueeref04_Encode.l1_eq, if_pos (by omega), if_pos (by omega), e, e1, e2])
/-- The bytes of one value. -/
def encB (x : S53) : List Int := x.f0 % 256 :: (if x.f0 = 1 then [x.f1 % 256] else if x.f0 = 2 ∨ x.f0 = 3 then fixF (IntKind.u64.wrap x.f1) 8 0 else if x.f0 = 4 then fixF (x.f2.size : Int) 2 0 ++ bytesOf x.f2 else [])
def encFrom (l : List S53) : Nat → Nat → Option (List Int)
  | 0, _ => some []
  | d + 1, i => if okV (rd_T53 l i).f0 (rd_T53 l i).f1 (rd_T53 l i).f2 = true then (encFrom l d (i + 1)).map (encB (rd_T53 l i) ++ ·) else none
def encR (acc : List Int) : Option (List Int) → ByteArray × Int
  | some b => (strOfNums (acc ++ b), 0)
  | none => (⟨#[]⟩, 31)
def wtV (x : S53) : Nat := 16 + x.f2.size
def wtFrom (l : List S53) : Nat → Nat → Nat
  | 0, _ => 0
  | d + 1, i => wtV (rd_T53 l i) + wtFrom l d (i + 1)
theorem encB_len (x : S53) : (encB x).length ≤ wtV x := by
  unfold encB wtV
  have hb : (bytesOf x.f2).length = x.f2.size := by simp [bytesOf]
  by_cases h1 : x.f0 = 1
  · rw [if_pos h1]; simp; omega
  · rw [if_neg h1]
    by_cases h2 : x.f0 = 2 ∨ x.f0 = 3
    · rw [if_pos h2, List.length_cons, fixF_len]; omega
    · rw [if_neg h2]
      by_cases h4 : x.f0 = 4
      · rw [if_pos h4, List.length_cons, List.length_append, fixF_len, hb]; omega
      · rw [if_neg h4]; simp; omega
theorem encR_step (acc : List Int) (b : List Int) (o : Option (List Int)) : encR (acc ++ b) o = encR acc (o.map (b ++ ·)) := by
  cases o
  · rfl
  · simp [encR]
theorem u64_size (s : ByteArray) (h : s.size < 140737488355328) : IntKind.u64.wrap (s.size : Int) = (s.size : Int) := by rw [IntKind.wrap_u64]; omega
theorem u64_in (x : Int) : 0 ≤ IntKind.u64.wrap x ∧ IntKind.u64.wrap x < 18446744073709551616 := by rw [IntKind.wrap_u64]; omega
theorem kEnc_from (l : List S53) (hl : l.length ≤ 9223372036854775807) : ∀ d i acc, i + d = l.length → acc.length + wtFrom l d i < 140737488355328 →
    Ev (fun k => key_Encode.l0 k acc l (l.length : Int) (i : Int)) (encR acc (encFrom l d i))
  | 0, i, acc, h, _ => by
    refine Ev.stops (fun k => ?_)
    rw [key_Encode.l0_eq, if_neg (by omega), encFrom, encR, List.append_nil]
  | d + 1, i, acc, h, hb => by
    have e1 := wrap_succ (show i < l.length by omega) (by omega)
    rw [wtFrom] at hb
    have hlen := encB_len (rd_T53 l i)
    have IH := kEnc_from l hl d (i + 1) (acc ++ encB (rd_T53 l i)) (by omega) (by rw [List.length_append]; omega)
    rw [encFrom]
    generalize hx : rd_T53 l (i : Int) = x at hb hlen IH ⊢
    by_cases ho : okV x.f0 x.f1 x.f2 = true
    · rw [if_pos ho, ← encR_step]
      generalize encR (acc ++ encB x) (encFrom l d (i + 1)) = R at IH ⊢
      have w1 : acc.length < 140737488355328 := by unfold wtV at hb; omega
      have st : ∀ k, key_Encode.l0 (k + 1) acc l (l.length : Int) (i : Int) = if x.f0 = 1 then (if (acc ++ [x.f0 % 256]).length < 140737488355328 then key_Encode.l0 k ((acc ++ [x.f0 % 256]) ++ [x.f1 % 256]) l (l.length : Int) ((i + 1 : Nat) : Int) else none) else if x.f0 = 2 then key_Encode.j1 k (acc ++ [x.f0 % 256]) l (l.length : Int) (i : Int) x.f0 (x.f0 == 2) x.f0 x.f1 x.f2 else key_Encode.j1 k (acc ++ [x.f0 % 256]) l (l.length : Int) (i : Int) x.f0 (x.f0 == 3) x.f0 x.f1 x.f2 := fun k => by
        rw [key_Encode.l0_eq, if_pos (by omega), if_pos (by omega), if_pos (by omega), hx, e1]
        unfold value_Check.f
        rw [if_pos ho]
        simp only [Option.bind_some]
        rw [if_pos trivial, if_pos w1]
      have w2 : (acc ++ [x.f0 % 256]).length + 15 + x.f2.size < 140737488355328 := by rw [List.length_append]; unfold wtV at hb; simp; omega
      by_cases h1 : x.f0 = 1
      · refine Ev.next IH (fun k => ?_)
        rw [st, if_pos h1, if_pos (by omega), List.append_assoc]
        unfold encB; rw [if_pos h1]; rfl
      · have hj : ∀ b : Bool, b = decide (x.f0 = 2 ∨ x.f0 = 3) → Ev (fun k => key_Encode.j1 k (acc ++ [x.f0 % 256]) l (l.length : Int) (i : Int) x.f0 b x.f0 x.f1 x.f2) R := fun b hbb => by
          have e2 : encB x = [x.f0 % 256] ++ (if x.f0 = 2 ∨ x.f0 = 3 then fixF (IntKind.u64.wrap x.f1) 8 0 else if x.f0 = 4 then fixF (x.f2.size : Int) 2 0 ++ bytesOf x.f2 else []) := by unfold encB; rw [if_neg h1]; rfl
          rw [e2, ← List.append_assoc] at IH
          clear e2
          by_cases h23 : x.f0 = 2 ∨ x.f0 = 3
          · have hb1 : b = true := by rw [hbb]; exact decide_eq_true h23
            rw [if_pos h23] at IH
            refine Ev.step (fun k => by rw [key_Encode.j1_eq, if_pos hb1]) ?_
            refine Ev.bind (kfix_ev (IntKind.u64.wrap x.f1) 8 (by omega)) ?_
            rw [fixF_len]
            exact Ev.congr (fun k => by rw [if_pos (by omega), e1]) IH
          · have hb1 : ¬ b = true := by rw [hbb]; simpa using h23
            rw [if_neg h23] at IH
            by_cases h4 : x.f0 = 4
            · rw [if_pos h4] at IH
              refine Ev.step (fun k => by rw [key_Encode.j1_eq, if_neg hb1, if_pos h4, u64_size _ (by omega)]) ?_
              refine Ev.bind (kfix_ev (x.f2.size : Int) 2 (by omega)) ?_
              have w3 : ((acc ++ [x.f0 % 256]) ++ fixF (x.f2.size : Int) 2 0).length + x.f2.size < 140737488355328 := by rw [List.length_append, fixF_len]; omega
              rw [fixF_len]
              exact Ev.congr (fun k => by rw [if_pos (by omega)]; simp only [Option.bind_some]; rw [if_pos w3, e1, List.append_assoc]) IH
            · rw [if_neg h4, List.append_nil] at IH
              exact Ev.next IH (fun k => by rw [key_Encode.j1_eq, if_neg hb1, if_neg h4, e1])
        by_cases h2 : x.f0 = 2
        · exact Ev.next (hj (x.f0 == 2) (by simp [h2])) (fun k => by rw [st, if_neg h1, if_pos h2])
        · exact Ev.next (hj (x.f0 == 3) (by by_cases h3 : x.f0 = 3 <;> simp [h2, h3])) (fun k => by rw [st, if_neg h1, if_neg h2])
    · rw [if_neg ho]
      refine Ev.stops (fun k => ?_)
      rw [key_Encode.l0_eq, if_pos (by omega), if_pos (by omega), if_pos (by omega), hx]
      unfold value_Check.f
      rw [if_neg ho]; rfl
theorem rEnc_from (l : List S53) (hl : l.length ≤ 9223372036854775807) : ∀ d i acc, i + d = l.length → acc.length + wtFrom l d i < 140737488355328 →
    Ev (fun k => marqueeref04_Encode.l0 k l acc (i : Int)) (encR acc (encFrom l d i))
  | 0, i, acc, h, _ => by
    refine Ev.stops (fun k => ?_)
    rw [marqueeref04_Encode.l0_eq, if_neg (by omega), encFrom, encR, List.append_nil]
  | d + 1, i, acc, h, hb => by
    have e1 := wrap_succ (show i < l.length by omega) (by omega)
    rw [wtFrom] at hb
    have hlen := encB_len (rd_T53 l i)
    have IH := rEnc_from l hl d (i + 1) (acc ++ encB (rd_T53 l i)) (by omega) (by rw [List.length_append]; omega)
    rw [encFrom]
    generalize hx : rd_T53 l (i : Int) = x at hb hlen IH ⊢
    have hm := may_ev x.f0 x.f1 x.f2 (by unfold wtV at hb; omega)
    by_cases ho : okV x.f0 x.f1 x.f2 = true
    · rw [if_pos ho, ← encR_step]
      generalize encR (acc ++ encB x) (encFrom l d (i + 1)) = R at IH ⊢
      have w1 : acc.length < 140737488355328 := by unfold wtV at hb; omega
      have w2 : (acc ++ [x.f0 % 256]).length + 15 + x.f2.size < 140737488355328 := by rw [List.length_append]; unfold wtV at hb; simp; omega
      have st : Ev (fun k => if x.f0 = 1 then (if (acc ++ [x.f0 % 256]).length < 140737488355328 then marqueeref04_Encode.l0 k l ((acc ++ [x.f0 % 256]) ++ [x.f1 % 256]) ((i + 1 : Nat) : Int) else none) else if x.f0 = 2 then marqueeref04_Encode.j1 k l (acc ++ [x.f0 % 256]) (i : Int) x.f0 (x.f0 == 2) x.f0 x.f1 x.f2 else marqueeref04_Encode.j1 k l (acc ++ [x.f0 % 256]) (i : Int) x.f0 (x.f0 == 3) x.f0 x.f1 x.f2) R → Ev (fun k => marqueeref04_Encode.l0 k l acc (i : Int)) R := fun hh => by
        refine Ev.step (fun k => by rw [marqueeref04_Encode.l0_eq, if_pos (by omega), if_pos (by omega), hx, e1]) (Ev.bind hm ?_)
        refine Ev.congr (fun k => ?_) hh
        rw [if_pos ho, if_pos w1]
        simp only [Option.bind_some]
      refine st ?_
      by_cases h1 : x.f0 = 1
      · refine Ev.congr (fun k => ?_) IH
        rw [if_pos h1, if_pos (by omega), List.append_assoc]
        unfold encB; rw [if_pos h1]; rfl
      · have hj : ∀ b : Bool, b = decide (x.f0 = 2 ∨ x.f0 = 3) → Ev (fun k => marqueeref04_Encode.j1 k l (acc ++ [x.f0 % 256]) (i : Int) x.f0 b x.f0 x.f1 x.f2) R := fun b hbb => by
          have e2 : encB x = [x.f0 % 256] ++ (if x.f0 = 2 ∨ x.f0 = 3 then fixF (IntKind.u64.wrap x.f1) 8 0 else if x.f0 = 4 then fixF (x.f2.size : Int) 2 0 ++ bytesOf x.f2 else []) := by unfold encB; rw [if_neg h1]; rfl
          rw [e2, ← List.append_assoc] at IH
          clear e2
          by_cases h23 : x.f0 = 2 ∨ x.f0 = 3
          · have hb1 : b = true := by rw [hbb]; exact decide_eq_true h23
            rw [if_pos h23] at IH
            have hu := u64_in x.f1
            refine Ev.step (fun k => by rw [marqueeref04_Encode.j1_eq, if_pos hb1]) ?_
            have hr := rfix l (IntKind.u64.wrap x.f1) hu.1 hu.2 (i : Int) R 8 0 (acc ++ [x.f0 % 256]) (by omega) (by omega) (by rw [e1]; exact IH)
            have ed : IntKind.u64.wrap x.f1 / 256 ^ 0 = IntKind.u64.wrap x.f1 := by rw [Int.pow_zero]; exact Int.ediv_one _
            rw [ed] at hr
            exact hr
          · have hb1 : ¬ b = true := by rw [hbb]; simpa using h23
            rw [if_neg h23] at IH
            by_cases h4 : x.f0 = 4
            · rw [if_pos h4] at IH
              have ef : ([(Go.bits .and .i64 (x.f2.size : Int) 255) % 256, ((x.f2.size : Int) / 256) % 256] : List Int) = fixF (x.f2.size : Int) 2 0 := by
                rw [and255i _ (by omega) (by omega)]
                unfold fixF fixF fixF
                rw [show (x.f2.size : Int) / 256 ^ 0 = x.f2.size by rw [Int.pow_zero]; exact Int.ediv_one _, show (x.f2.size : Int) % 256 % 256 = (x.f2.size : Int) % 256 by omega]
                rfl
              have w3 : ((acc ++ [x.f0 % 256]) ++ fixF (x.f2.size : Int) 2 0).length + x.f2.size < 140737488355328 := by rw [List.length_append, fixF_len]; omega
              refine Ev.step (f := fun k => marqueeref04_Encode.l0 k l ((acc ++ [x.f0 % 256]) ++ fixF (x.f2.size : Int) 2 0 ++ bytesOf x.f2) ((i + 1 : Nat) : Int)) (fun k => ?_) (by rw [List.append_assoc (acc ++ [x.f0 % 256])]; exact IH)
              rw [marqueeref04_Encode.j1_eq, if_neg hb1, if_pos h4, ef]
              simp only [Option.bind_some]
              rw [if_pos (by rw [fixF_len]; omega), if_pos w3, e1]
            · rw [if_neg h4, List.append_nil] at IH
              exact Ev.next IH (fun k => by rw [marqueeref04_Encode.j1_eq, if_neg hb1, if_neg h4, e1])
        by_cases h2 : x.f0 = 2
        · exact Ev.congr (fun k => by rw [if_neg h1, if_pos h2]) (hj (x.f0 == 2) (by simp [h2]))
        · exact Ev.congr (fun k => by rw [if_neg h1, if_neg h2]) (hj (x.f0 == 3) (by by_cases h3 : x.f0 = 3 <;> simp [h2, h3]))
    · rw [if_neg ho]
      refine Ev.step (fun k => by rw [marqueeref04_Encode.l0_eq, if_pos (by omega), if_pos (by omega), hx]) (Ev.bind hm ?_)
      exact Ev.congr (fun k => by rw [if_neg ho]; rfl) (Ev.now _)
def encV (l : List S53) : ByteArray × Int := encR [] (encFrom l l.length 0)
theorem kEnc_ev (l : List S53) (hl : l.length ≤ 9223372036854775807) (hw : wtFrom l l.length 0 < 140737488355328) : Ev (fun k => key_Encode.f k l) (encV l) := kEnc_from l hl l.length 0 [] (by omega) (by simpa using hw)
theorem rEnc_ev (l : List S53) (hl : l.length ≤ 9223372036854775807) (hw : wtFrom l l.length 0 < 140737488355328) : Ev (fun k => marqueeref04_Encode.f k l) (encV l) := rEnc_from l hl l.length 0 [] (by omega) (by simpa using hw)
end Go.Proofs.YtiabggpijomjmaaDoor
namespace Go.Proofs.YtiabggpijomjmaaDoor
open Go.RowKit Print Go.Proofs.YtiabggpijomjmaaDoorW.PrintWords Go.Proofs.YtiabggpijomjmaaDoorW.PrintLast Go.Proofs.YtiabggpijomjmaaDoorW.PrintMore
theorem bt_in (s : ByteArray) (i : Nat) (h : i < s.size) : 0 ≤ bt s (i : Int) ∧ bt s (i : Int) < 256 := by
  rw [bt_byte s i h]
  have := ((s.data.toList.drop i).getD 0 0).toNat_lt
  omega
theorem ext_size (s : ByteArray) (n : Nat) : (s.extract n s.size).size = s.size - n := by simp [ByteArray.size_extract]
theorem ext_list (s : ByteArray) (n : Nat) : (s.extract n s.size).data.toList = s.data.toList.drop n := by
  simp [ByteArray.data_extract]
  exact List.take_of_length_le (by rw [List.length_drop]; exact Nat.le_refl _)
theorem bt_ext (s : ByteArray) (n i : Nat) (h : n + i < s.size) : bt (s.extract n s.size) (i : Int) = bt s ((n + i : Nat) : Int) := by
  rw [bt_byte _ i (by rw [ext_size]; omega), bt_byte s (n + i) h, ext_list, List.drop_drop]
theorem or_nat (a x i : Nat) (ha : a < 2 ^ i) : a ||| x * 2 ^ i = a + x * 2 ^ i := by
  rw [Nat.or_comm, Nat.mul_comm, ← Nat.two_pow_add_eq_or_of_lt ha, Nat.add_comm]
theorem or_low (a x : Int) (ha : 0 ≤ a) (ha2 : a < 72057594037927936) (hx : 0 ≤ x) (hx2 : x < 256) : Go.bits .or .u64 (IntKind.u64.wrap (a * 256)) (IntKind.u64.wrap x) = a * 256 + x := by
  obtain ⟨n, rfl⟩ := Int.eq_ofNat_of_zero_le ha
  obtain ⟨m, rfl⟩ := Int.eq_ofNat_of_zero_le hx
  rw [show IntKind.u64.wrap ((n : Int) * 256) = ((n * 256 : Nat) : Int) by rw [IntKind.wrap_u64]; omega, show IntKind.u64.wrap (m : Int) = (m : Int) by rw [IntKind.wrap_u64]; omega, bits_or_u64_nat _ _ (by omega) (by omega)]
  have h := or_nat m n 8 (by omega)
  rw [Nat.or_comm, show n * 256 = n * 2 ^ 8 from rfl, h]
  omega
theorem or_high (a x : Int) (i : Nat) (hi : i < 8) (ha : 0 ≤ a) (ha2 : a < 256 ^ i) (hx : 0 ≤ x) (hx2 : x < 256) : Go.bits .or .u64 a (shl .u64 (IntKind.u64.wrap x) (wrap64 (8 * (i : Int)))) = a + x * 256 ^ i := by
  obtain ⟨n, rfl⟩ := Int.eq_ofNat_of_zero_le ha
  obtain ⟨m, rfl⟩ := Int.eq_ofNat_of_zero_le hx
  have e : shl .u64 (IntKind.u64.wrap (m : Int)) (wrap64 (8 * (i : Int))) = ((m * 2 ^ (8 * i) : Nat) : Int) := by
    rw [w64 (by omega) (by omega), show IntKind.u64.wrap (m : Int) = (m : Int) by rw [IntKind.wrap_u64]; omega]
    have ep : (2 : Int) ^ min (8 * (i : Int)).toNat IntKind.u64.bits = 256 ^ i := by
      rcases (by omega : i = 0 ∨ i = 1 ∨ i = 2 ∨ i = 3 ∨ i = 4 ∨ i = 5 ∨ i = 6 ∨ i = 7) with rfl | rfl | rfl | rfl | rfl | rfl | rfl | rfl <;> rfl
    unfold shl
    rw [ep, IntKind.wrap_u64]
    rcases (by omega : i = 0 ∨ i = 1 ∨ i = 2 ∨ i = 3 ∨ i = 4 ∨ i = 5 ∨ i = 6 ∨ i = 7) with rfl | rfl | rfl | rfl | rfl | rfl | rfl | rfl <;>
      (simp only [Int.reducePow, Nat.reduceMul, Nat.reducePow]; omega)
  rw [e]
  rcases (by omega : i = 0 ∨ i = 1 ∨ i = 2 ∨ i = 3 ∨ i = 4 ∨ i = 5 ∨ i = 6 ∨ i = 7) with rfl | rfl | rfl | rfl | rfl | rfl | rfl | rfl <;>
    (simp only [Int.reducePow, Nat.reduceMul, Nat.reducePow] at ha2 ⊢; rw [bits_or_u64_nat _ _ (by omega) (by omega)])
  · rw [show m * 1 = m * 2 ^ 0 from rfl, or_nat n m 0 (by omega)]; omega
  · rw [show m * 256 = m * 2 ^ 8 from rfl, or_nat n m 8 (by omega)]; omega
  · rw [show m * 65536 = m * 2 ^ 16 from rfl, or_nat n m 16 (by omega)]; omega
  · rw [show m * 16777216 = m * 2 ^ 24 from rfl, or_nat n m 24 (by omega)]; omega
  · rw [show m * 4294967296 = m * 2 ^ 32 from rfl, or_nat n m 32 (by omega)]; omega
  · rw [show m * 1099511627776 = m * 2 ^ 40 from rfl, or_nat n m 40 (by omega)]; omega
  · rw [show m * 281474976710656 = m * 2 ^ 48 from rfl, or_nat n m 48 (by omega)]; omega
  · rw [show m * 72057594037927936 = m * 2 ^ 56 from rfl, or_nat n m 56 (by omega)]; omega
/-- The number in c bytes from place o on, lowest first. -/
def lowN (s : ByteArray) (o : Nat) : Nat → Int
  | 0 => 0
  | c + 1 => lowN s o c + bt s ((o + c : Nat) : Int) * 256 ^ c
theorem lowN_in (s : ByteArray) (o : Nat) : ∀ c, c ≤ 8 → o + c ≤ s.size → 0 ≤ lowN s o c ∧ lowN s o c < 256 ^ c
  | 0, _, _ => ⟨Int.le_refl _, (by decide : (0 : Int) < 256 ^ 0)⟩
  | c + 1, h, h2 => by
    have IH := lowN_in s o c (by omega) (by omega)
    have hb := bt_in s (o + c) (by omega)
    rw [lowN]
    generalize lowN s o c = a at IH ⊢
    generalize bt s ((o + c : Nat) : Int) = b at hb ⊢
    rcases (by omega : c = 0 ∨ c = 1 ∨ c = 2 ∨ c = 3 ∨ c = 4 ∨ c = 5 ∨ c = 6 ∨ c = 7) with rfl | rfl | rfl | rfl | rfl | rfl | rfl | rfl <;>
      (simp only [Int.reducePow, Nat.reduceAdd] at IH ⊢; omega)
end Go.Proofs.YtiabggpijomjmaaDoor
namespace Go.Proofs.YtiabggpijomjmaaDoor
open Go.RowKit Print Go.Proofs.YtiabggpijomjmaaDoorW.PrintWords Go.Proofs.YtiabggpijomjmaaDoorW.PrintLast Go.Proofs.YtiabggpijomjmaaDoorW.PrintMore
theorem key_one.j1_eq (k : Nat) (x0 : ByteArray) (x6 : Int) (x156000 : Int) (x156001 : Int) (x156002 : ByteArray) : key_one.j1 (k + 1) x0 x6 x156000 x156001 x156002 = if (x0.size : Int) < x6 then (some (x156000, x156001, x156002, x0, false)) else (key_one.l0 k x0 x6 0 0 x156000 x156001 x156002) := by
  rw [key_one.j1]
theorem key_one.l0_eq (k : Nat) (x0 : ByteArray) (x6 : Int) (x7 : Int) (x8 : Int) (x156000 : Int) (x156001 : Int) (x156002 : ByteArray) : key_one.l0 (k + 1) x0 x6 x7 x8 x156000 x156001 x156002 = if x8 < x6 then (if 0 ≤ x8 then (if x8 < (x0.size : Int) then (if 0 ≤ (wrap64 (8 * x8)) then (key_one.l0 k x0 x6 (Go.bits .or .u64 x7 (shl .u64 (IntKind.u64.wrap (bt x0 x8)) (wrap64 (8 * x8)))) (wrap64 (x8 + 1)) x156000 x156001 x156002) else (none)) else (none)) else (none)) else (if 0 ≤ x6 then (if x6 ≤ (x0.size : Int) then (if x156000 = 4 then (if (IntKind.u64.wrap (((x0.extract (x6 : Int).toNat x0.size).size : Int))) < x7 then (some (x156000, x156001, x156002, x0.extract (x6 : Int).toNat x0.size, false)) else (if 0 ≤ x7 then (if x7 ≤ ((x0.extract (x6 : Int).toNat x0.size).size : Int) then ((value_Check.f x156000 x156001 ((x0.extract (x6 : Int).toNat x0.size).extract 0 (x7 : Int).toNat)).bind fun t156 => (some (x156000, x156001, (x0.extract (x6 : Int).toNat x0.size).extract 0 (x7 : Int).toNat, (x0.extract (x6 : Int).toNat x0.size).extract (x7 : Int).toNat (x0.extract (x6 : Int).toNat x0.size).size, (t156 == 0)))) else (none)) else (none))) else ((value_Check.f x156000 (wrap64 (x7)) x156002).bind fun t157 => (some (x156000, wrap64 (x7), x156002, x0.extract (x6 : Int).toNat x0.size, (t157 == 0))))) else (none)) else (none)) := by
  rw [key_one.l0]
theorem key_one.j0_eq (k : Nat) (x0 : ByteArray) (x16 : Int) (x23 : Bool) (x156000 : Int) (x156001 : Int) (x156002 : ByteArray) : key_one.j0 (k + 1) x0 x16 x23 x156000 x156001 x156002 = if x23 = true then (key_one.j1 k x0 8 x156000 x156001 x156002) else (if x16 = 4 then (key_one.j1 k x0 2 x156000 x156001 x156002) else (some (x156000, x156001, x156002, x0, false))) := by
  rw [key_one.j0]
theorem ext_ext (s : ByteArray) (a b : Nat) : (s.extract a s.size).extract b (s.extract a s.size).size = s.extract (a + b) s.size := by
  refine ByteArray.ext (Array.ext' ?_)
  rw [ext_list, ext_list, ext_list, List.drop_drop]
theorem ext_cut (s : ByteArray) (a n : Nat) (h : a + n ≤ s.size) : (s.extract a s.size).extract 0 n = s.extract a (a + n) := by
  refine ByteArray.ext (Array.ext' ?_)
  rw [ByteArray.data_extract, Array.toList_extract, ext_list, ByteArray.data_extract, Array.toList_extract]
  simp
open Classical in
/-- The first value of a text of bytes and how many bytes it takes; whether the value may be is not asked. -/
noncomputable def raw1 (s : ByteArray) : Option (S53 × Nat) :=
  if bt s 0 = 0 then some (⟨0, 0, ⟨#[]⟩⟩, 1)
  else if bt s 0 = 1 then (if 2 ≤ s.size then some (⟨1, bt s 1, ⟨#[]⟩⟩, 2) else none)
  else if bt s 0 = 2 ∨ bt s 0 = 3 then (if 9 ≤ s.size then some (⟨bt s 0, wrap64 (lowN s 1 8), ⟨#[]⟩⟩, 9) else none)
  else if bt s 0 = 4 then (if 3 ≤ s.size then (if 3 + (lowN s 1 2).toNat ≤ s.size then some (⟨4, 0, s.extract 3 (3 + (lowN s 1 2).toNat)⟩, 3 + (lowN s 1 2).toNat) else none) else none)
  else none
section
variable (s : ByteArray) (hs : s.size ≤ 9223372036854775807) (c : Nat) (hc : c ≤ 8) (hcs : 1 + c ≤ s.size)
include hs hc hcs
theorem kLoop (kd : Int) (r : Int × Int × ByteArray × ByteArray × Bool) (hr : Ev (fun k => key_one.l0 k (s.extract 1 s.size) (c : Int) (lowN s 1 c) (c : Int) kd 0 (⟨#[]⟩ : ByteArray)) r) :
    ∀ d i, i + d = c → Ev (fun k => key_one.l0 k (s.extract 1 s.size) (c : Int) (lowN s 1 i) (i : Int) kd 0 (⟨#[]⟩ : ByteArray)) r
  | 0, i, h => by
    obtain rfl : i = c := by omega
    exact hr
  | d + 1, i, h => by
    have IH := kLoop kd r hr d (i + 1) (by omega)
    have e1 := wrap_succ (show i < c by omega) (by omega)
    have e0 : (0 : Int) ≤ wrap64 (8 * (i : Int)) := by rw [w64 (by omega) (by omega)]; omega
    have hz := ext_size s 1
    have hb := bt_in s (1 + i) (by omega)
    have hn := lowN_in s 1 i (by omega) (by omega)
    have eo := or_high (lowN s 1 i) (bt s ((1 + i : Nat) : Int)) i (by omega) hn.1 hn.2 hb.1 hb.2
    refine Ev.next IH (fun k => ?_)
    rw [key_one.l0_eq, if_pos (by omega), if_pos (by omega), if_pos (by rw [hz]; omega), if_pos e0, bt_ext s 1 i (by omega), eo, e1]
    rfl
theorem kEnd (kd : Int) (h4 : ¬ kd = 4) (x : Int) : Ev (fun k => key_one.l0 k (s.extract 1 s.size) (c : Int) x (c : Int) kd 0 (⟨#[]⟩ : ByteArray)) (kd, wrap64 x, (⟨#[]⟩ : ByteArray), s.extract (1 + c) s.size, okV kd (wrap64 x) (⟨#[]⟩ : ByteArray)) := by
  have hz := ext_size s 1
  refine Ev.stops (fun k => ?_)
  rw [key_one.l0_eq, if_neg (by omega), if_pos (by omega), if_pos (by rw [hz]; omega), if_neg h4, Int.toNat_natCast, ext_ext]
  unfold value_Check.f
  cases okV kd (wrap64 x) (⟨#[]⟩ : ByteArray) <;> rfl
theorem kJ1 (kd : Int) (h4 : ¬ kd = 4) : Ev (fun k => key_one.j1 k (s.extract 1 s.size) (c : Int) kd 0 (⟨#[]⟩ : ByteArray)) (kd, wrap64 (lowN s 1 c), (⟨#[]⟩ : ByteArray), s.extract (1 + c) s.size, okV kd (wrap64 (lowN s 1 c)) (⟨#[]⟩ : ByteArray)) := by
  have hz := ext_size s 1
  refine Ev.next (kLoop s hs c hc hcs kd _ (kEnd s hs c hc hcs kd h4 _) c 0 (by omega)) (fun k => ?_)
  rw [key_one.j1_eq, if_neg (by rw [hz]; omega)]
  rfl
end
theorem kJ1_short (s : ByteArray) (c : Nat) (h1 : 1 ≤ s.size) (h : s.size < 1 + c) (kd : Int) : Ev (fun k => key_one.j1 k (s.extract 1 s.size) (c : Int) kd 0 (⟨#[]⟩ : ByteArray)) (kd, 0, (⟨#[]⟩ : ByteArray), s.extract 1 s.size, false) := by
  have hz := ext_size s 1
  refine Ev.stops (fun k => ?_)
  rw [key_one.j1_eq, if_pos (by rw [hz]; omega)]
end Go.Proofs.YtiabggpijomjmaaDoor
namespace Go.Proofs.YtiabggpijomjmaaDoor
open Go.RowKit Print Go.Proofs.YtiabggpijomjmaaDoorW.PrintWords Go.Proofs.YtiabggpijomjmaaDoorW.PrintLast Go.Proofs.YtiabggpijomjmaaDoorW.PrintMore
def KeyR (s : ByteArray) (r : Int × Int × ByteArray × ByteArray × Bool) : Prop :=
  match raw1 s with
  | none => r.2.2.2.2 = false
  | some (x, n) => r = (x.f0, x.f1, x.f2, s.extract n s.size, okV x.f0 x.f1 x.f2)
def RefR (s : ByteArray) (r : Int × Int × ByteArray × Int) : Prop :=
  match raw1 s with
  | none => r.2.2.2 = 0
  | some (x, n) => r = (x.f0, x.f1, x.f2, (n : Int))
theorem kEnd4 (s : ByteArray) (hs : s.size < 140737488355328) (hcs : 3 ≤ s.size) :
    Ev (fun k => key_one.l0 k (s.extract 1 s.size) 2 (lowN s 1 2) 2 4 0 (⟨#[]⟩ : ByteArray))
      (if 3 + (lowN s 1 2).toNat ≤ s.size then (4, 0, s.extract 3 (3 + (lowN s 1 2).toNat), s.extract (3 + (lowN s 1 2).toNat) s.size, okV 4 0 (s.extract 3 (3 + (lowN s 1 2).toNat)))
       else (4, 0, (⟨#[]⟩ : ByteArray), s.extract 3 s.size, false)) := by
  have hz := ext_size s 1
  have hz3 := ext_size s 3
  have hn := lowN_in s 1 2 (by omega) (by omega)
  generalize lowN s 1 2 = x at hn ⊢
  have e3 : (s.extract 1 s.size).extract (2 : Int).toNat (s.extract 1 s.size).size = s.extract 3 s.size := ext_ext s 1 2
  refine Ev.stops (fun k => ?_)
  rw [key_one.l0_eq, if_neg (by omega), if_pos (by omega), if_pos (by rw [hz]; omega), if_pos rfl, e3, u64_size _ (by rw [hz3]; omega)]
  by_cases h : 3 + x.toNat ≤ s.size
  · rw [if_pos h, if_neg (by rw [hz3]; omega), if_pos hn.1, if_pos (by rw [hz3]; omega), ext_cut s 3 x.toNat h, ext_ext]
    unfold value_Check.f
    cases okV 4 0 (s.extract 3 (3 + x.toNat)) <;> rfl
  · rw [if_neg h, if_pos (by rw [hz3]; omega)]
theorem kOne (s : ByteArray) (hs : s.size < 140737488355328) (h1 : 1 ≤ s.size) : ∃ r, Ev (fun k => key_one.f k s) r ∧ KeyR s r := by
  have hb := bt_in s 0 (by omega)
  have ew : wrap64 (bt s 0) = bt s 0 := w64 (by have := hb.1; have e : ((0 : Nat) : Int) = 0 := rfl; rw [e] at this; omega) (by have := hb.2; have e : ((0 : Nat) : Int) = 0 := rfl; rw [e] at this; omega)
  have hf : ∀ k, key_one.f k s = (if bt s 0 = 0 then (key_one.j1 k (s.extract 1 s.size) 0 (bt s 0) 0 (⟨#[]⟩ : ByteArray)) else (if bt s 0 = 1 then (key_one.j1 k (s.extract 1 s.size) 1 (bt s 0) 0 (⟨#[]⟩ : ByteArray)) else (if bt s 0 = 2 then (key_one.j0 k (s.extract 1 s.size) (bt s 0) (bt s 0 == 2) (bt s 0) 0 (⟨#[]⟩ : ByteArray)) else (key_one.j0 k (s.extract 1 s.size) (bt s 0) (bt s 0 == 3) (bt s 0) 0 (⟨#[]⟩ : ByteArray))))) := fun k => by
    unfold key_one.f
    rw [if_pos (by omega), if_pos (by omega), ew]
  unfold KeyR raw1
  by_cases k0 : bt s 0 = 0
  · refine ⟨_, Ev.congr (fun k => by rw [hf, if_pos k0]; rfl) (kJ1 s (by omega) 0 (by omega) (by omega) (bt s 0) (by omega)), ?_⟩
    have el : wrap64 (lowN s 1 0) = 0 := w64 (x := 0) (by omega) (by omega)
    rw [if_pos k0, k0, el]
  · by_cases k1 : bt s 0 = 1
    · rw [if_neg k0, if_pos k1]
      by_cases h2 : 2 ≤ s.size
      · refine ⟨_, Ev.congr (fun k => by rw [hf, if_neg k0, if_pos k1]; rfl) (kJ1 s (by omega) 1 (by omega) (by omega) (bt s 0) (by omega)), ?_⟩
        have hb1 := bt_in s 1 (by omega)
        have el : lowN s 1 1 = bt s 1 := by unfold lowN lowN; rw [Int.pow_zero, Int.mul_one, Int.zero_add]; rfl
        have e1 : ((1 : Nat) : Int) = 1 := rfl
        rw [e1] at hb1
        rw [if_pos h2, k1, el, w64 (by omega) (by omega)]
      · refine ⟨_, Ev.congr (fun k => by rw [hf, if_neg k0, if_pos k1]; rfl) (kJ1_short s 1 h1 (by omega) (bt s 0)), ?_⟩
        rw [if_neg h2]
    · rw [if_neg k0, if_neg k1]
      by_cases k23 : bt s 0 = 2 ∨ bt s 0 = 3
      · rw [if_pos k23]
        have hj : ∀ r, Ev (fun k => key_one.j1 k (s.extract 1 s.size) ((8 : Nat) : Int) (bt s 0) 0 (⟨#[]⟩ : ByteArray)) r → Ev (fun k => key_one.f k s) r := fun r hr => by
          by_cases k2 : bt s 0 = 2
          · exact Ev.congr (fun k => by rw [hf, if_neg k0, if_neg k1, if_pos k2]) (Ev.next hr (fun k => by rw [key_one.j0_eq, if_pos (by simp [k2])]; rfl))
          · have k3 : (bt s 0 == 3) = true := by have : bt s 0 = 3 := by omega
                                                 simp [this]
            exact Ev.congr (fun k => by rw [hf, if_neg k0, if_neg k1, if_neg k2]) (Ev.next hr (fun k => by rw [key_one.j0_eq, if_pos k3]; rfl))
        by_cases h9 : 9 ≤ s.size
        · refine ⟨_, hj _ (kJ1 s (by omega) 8 (by omega) (by omega) (bt s 0) (by omega)), ?_⟩
          rw [if_pos h9]
        · refine ⟨_, hj _ (kJ1_short s 8 h1 (by omega) (bt s 0)), ?_⟩
          rw [if_neg h9]
      · rw [if_neg k23]
        have hq : ∀ k, key_one.f k s = key_one.j0 k (s.extract 1 s.size) (bt s 0) false (bt s 0) 0 (⟨#[]⟩ : ByteArray) := fun k => by
          rw [hf, if_neg k0, if_neg k1, if_neg (by omega), show (bt s 0 == 3) = false by simp; omega]
        by_cases k4 : bt s 0 = 4
        · rw [if_pos k4]
          have hj : ∀ r, Ev (fun k => key_one.j1 k (s.extract 1 s.size) ((2 : Nat) : Int) 4 0 (⟨#[]⟩ : ByteArray)) r → Ev (fun k => key_one.f k s) r := fun r hr =>
            Ev.congr hq (Ev.next hr (fun k => by rw [key_one.j0_eq, if_neg (by decide), if_pos k4, k4]; rfl))
          by_cases h3 : 3 ≤ s.size
          · have hz := ext_size s 1
            have hl := kLoop s (by omega) 2 (by omega) (by omega) 4 _ (kEnd4 s hs h3) 2 0 (by omega)
            refine ⟨_, hj _ (Ev.next hl (fun k => by rw [key_one.j1_eq, if_neg (by rw [hz]; omega)]; rfl)), ?_⟩
            rw [if_pos h3]
            by_cases h : 3 + (lowN s 1 2).toNat ≤ s.size
            · rw [if_pos h, if_pos h]
            · rw [if_neg h, if_neg h]
          · refine ⟨_, hj _ (kJ1_short s 2 h1 (by omega) 4), ?_⟩
            rw [if_neg h3]
        · rw [if_neg k4]
          exact ⟨_, Ev.congr hq (Ev.stops (fun k => by rw [key_one.j0_eq, if_neg (by decide), if_neg k4])), rfl⟩
end Go.Proofs.YtiabggpijomjmaaDoor
namespace Go.Proofs.YtiabggpijomjmaaDoor
open Go.RowKit Print Go.Proofs.YtiabggpijomjmaaDoorW.PrintWords Go.Proofs.YtiabggpijomjmaaDoorW.PrintLast Go.Proofs.YtiabggpijomjmaaDoorW.PrintMore
theorem marqueeref04_one.j0_eq (k : Nat) (x0 : ByteArray) (x13 : Int) (x27 : Bool) (x169000 : Int) (x169001 : Int) (x169002 : ByteArray) : marqueeref04_one.j0 (k + 1) x0 x13 x27 x169000 x169001 x169002 = if x27 = true then (if (x0.size : Int) ≥ 9 then (marqueeref04_one.l0 k x0 0 8 x169000 x169001 x169002) else (some (x169000, x169001, x169002, 0))) else (if x13 = 4 then (if (x0.size : Int) ≥ 3 then (if 1 < (x0.size : Int) then (if 2 < (x0.size : Int) then (if (x0.size : Int) ≥ (wrap64 (3 + (wrap64 ((wrap64 (bt x0 1)) + (wrap64 (256 * (wrap64 (bt x0 2)))))))) then (if 3 ≤ (wrap64 (3 + (wrap64 ((wrap64 (bt x0 1)) + (wrap64 (256 * (wrap64 (bt x0 2)))))))) then (if (wrap64 (3 + (wrap64 ((wrap64 (bt x0 1)) + (wrap64 (256 * (wrap64 (bt x0 2)))))))) ≤ (x0.size : Int) then (some (x169000, x169001, x0.extract 3 ((wrap64 (3 + (wrap64 ((wrap64 (bt x0 1)) + (wrap64 (256 * (wrap64 (bt x0 2)))))))) : Int).toNat, wrap64 (3 + (wrap64 ((wrap64 (bt x0 1)) + (wrap64 (256 * (wrap64 (bt x0 2))))))))) else (none)) else (none)) else (some (x169000, x169001, x169002, 0))) else (none)) else (none)) else (some (x169000, x169001, x169002, 0))) else (some (x169000, x169001, x169002, 0))) := by
  rw [marqueeref04_one.j0]
theorem marqueeref04_one.l0_eq (k : Nat) (x0 : ByteArray) (x5 : Int) (x6 : Int) (x169000 : Int) (x169001 : Int) (x169002 : ByteArray) : marqueeref04_one.l0 (k + 1) x0 x5 x6 x169000 x169001 x169002 = if x6 ≥ 1 then (if 0 ≤ x6 then (if x6 < (x0.size : Int) then (marqueeref04_one.l0 k x0 (Go.bits .or .u64 (IntKind.u64.wrap (x5 * 256)) (IntKind.u64.wrap (bt x0 x6))) (wrap64 (x6 - 1)) x169000 x169001 x169002) else (none)) else (none)) else (some (x169000, wrap64 (x5), x169002, 9)) := by
  rw [marqueeref04_one.l0]
theorem marqueeref04_Decode.l0_eq (k : Nat) (x0 : ByteArray) (x4 : List (S53)) : marqueeref04_Decode.l0 (k + 1) x0 x4 = if x0.toList = ([] : List UInt8) then (some (x4, 0)) else ((marqueeref04_one.f k x0).bind fun bt169 => (if bt169.2.2.2 = 0 then (some (([] : List (S53)), 31)) else ((marqueeref01_May.f k bt169.1 bt169.2.1 bt169.2.2.1).bind fun t174 => (if t174 = true then (if x4.length < 4398046511104 then (if 0 ≤ bt169.2.2.2 then (if bt169.2.2.2 ≤ (x0.size : Int) then (marqueeref04_Decode.l0 k (x0.extract (bt169.2.2.2 : Int).toNat x0.size) (x4 ++ [(⟨bt169.1, bt169.2.1, bt169.2.2.1⟩ : S53)])) else (none)) else (none)) else (none)) else (some (([] : List (S53)), 31)))))) := by
  rw [marqueeref04_Decode.l0]
/-- The number in d bytes from place j on, highest last. -/
def hiN (s : ByteArray) : Nat → Nat → Int
  | 0, _ => 0
  | d + 1, j => hiN s d (j + 1) * 256 + bt s (j : Int)
theorem hiN_in (s : ByteArray) : ∀ d j, d ≤ 8 → j + d ≤ s.size → 0 ≤ hiN s d j ∧ hiN s d j < 256 ^ d
  | 0, _, _, _ => ⟨Int.le_refl _, (by decide : (0 : Int) < 256 ^ 0)⟩
  | d + 1, j, h, h2 => by
    have IH := hiN_in s d (j + 1) (by omega) (by omega)
    have hb := bt_in s j (by omega)
    rw [hiN]
    generalize hiN s d (j + 1) = a at IH ⊢
    generalize bt s (j : Int) = b at hb ⊢
    rcases (by omega : d = 0 ∨ d = 1 ∨ d = 2 ∨ d = 3 ∨ d = 4 ∨ d = 5 ∨ d = 6 ∨ d = 7) with rfl | rfl | rfl | rfl | rfl | rfl | rfl | rfl <;>
      (simp only [Int.reducePow, Nat.reduceAdd] at IH ⊢; omega)
theorem hi_low (s : ByteArray) : hiN s 8 1 = lowN s 1 8 := by
  simp only [hiN, lowN, Nat.reduceAdd, Int.reducePow]
  omega
theorem rLoop (s : ByteArray) (h9 : 9 ≤ s.size) (kd : Int) : ∀ j, j ≤ 8 →
    Ev (fun k => marqueeref04_one.l0 k s (hiN s (8 - j) (j + 1)) (j : Int) kd 0 (⟨#[]⟩ : ByteArray)) (kd, wrap64 (lowN s 1 8), (⟨#[]⟩ : ByteArray), 9)
  | 0, _ => by
    refine Ev.stops (fun k => ?_)
    rw [marqueeref04_one.l0_eq, if_neg (by omega), ← hi_low]
  | j + 1, h => by
    have IH := rLoop s h9 kd j (by omega)
    have hb := bt_in s (j + 1) (by omega)
    have hn := hiN_in s (8 - (j + 1)) (j + 1 + 1) (by omega) (by omega)
    have hn2 : hiN s (8 - (j + 1)) (j + 1 + 1) < 72057594037927936 := by
      have hj : 8 - (j + 1) = 0 ∨ 8 - (j + 1) = 1 ∨ 8 - (j + 1) = 2 ∨ 8 - (j + 1) = 3 ∨ 8 - (j + 1) = 4 ∨ 8 - (j + 1) = 5 ∨ 8 - (j + 1) = 6 ∨ 8 - (j + 1) = 7 := by omega
      generalize hiN s (8 - (j + 1)) (j + 1 + 1) = a at hn ⊢
      generalize 8 - (j + 1) = q at hn hj
      rcases hj with rfl | rfl | rfl | rfl | rfl | rfl | rfl | rfl <;> (simp only [Int.reducePow] at hn; omega)
    have e : hiN s (8 - j) (j + 1) = hiN s (8 - (j + 1)) (j + 1 + 1) * 256 + bt s ((j + 1 : Nat) : Int) := by
      rw [show 8 - j = (8 - (j + 1)) + 1 by omega, hiN]
    have ew : wrap64 (((j + 1 : Nat) : Int) - 1) = (j : Int) := by rw [w64 (by omega) (by omega)]; omega
    refine Ev.next IH (fun k => ?_)
    rw [marqueeref04_one.l0_eq, if_pos (by omega), if_pos (by omega), if_pos (by omega), or_low _ _ hn.1 hn2 hb.1 hb.2, ew, e]
theorem low2 (s : ByteArray) (h3 : 3 ≤ s.size) : wrap64 (3 + (wrap64 ((wrap64 (bt s 1)) + (wrap64 (256 * (wrap64 (bt s 2))))))) = ((3 + (lowN s 1 2).toNat : Nat) : Int) := by
  have h1 := bt_in s 1 (by omega)
  have h2 := bt_in s 2 (by omega)
  have el : lowN s 1 2 = bt s 1 + bt s 2 * 256 := by simp [lowN]
  have e1 : ((1 : Nat) : Int) = 1 := rfl
  have e2 : ((2 : Nat) : Int) = 2 := rfl
  rw [e1] at h1
  rw [e2] at h2
  rw [el]
  generalize bt s 1 = a at h1 ⊢
  generalize bt s 2 = b at h2 ⊢
  rw [w64 (x := a) (by omega) (by omega), w64 (x := b) (by omega) (by omega), w64 (x := 256 * b) (by omega) (by omega), w64 (x := a + 256 * b) (by omega) (by omega), w64 (by omega) (by omega)]
  omega
theorem rOne (s : ByteArray) (hs : s.size < 140737488355328) (h1 : 1 ≤ s.size) : ∃ r, Ev (fun k => marqueeref04_one.f k s) r ∧ RefR s r := by
  have hb := bt_in s 0 (by omega)
  have ew : wrap64 (bt s 0) = bt s 0 := w64 (by have := hb.1; have e : ((0 : Nat) : Int) = 0 := rfl; rw [e] at this; omega) (by have := hb.2; have e : ((0 : Nat) : Int) = 0 := rfl; rw [e] at this; omega)
  unfold RefR raw1
  by_cases k0 : bt s 0 = 0
  · refine ⟨_, Ev.congr (fun k => by unfold marqueeref04_one.f; rw [if_pos (by omega), ew, if_pos k0]) (Ev.now _), ?_⟩
    rw [if_pos k0, k0]; rfl
  · by_cases k1 : bt s 0 = 1
    · rw [if_neg k0, if_pos k1]
      by_cases h2 : 2 ≤ s.size
      · have hb1 := bt_in s 1 (by omega)
        have e1 : ((1 : Nat) : Int) = 1 := rfl
        rw [e1] at hb1
        have ew1 : wrap64 (bt s 1) = bt s 1 := w64 (by omega) (by omega)
        refine ⟨_, Ev.congr (fun k => by unfold marqueeref04_one.f; rw [if_pos (by omega), ew, if_neg k0, if_pos k1, if_pos (by omega), if_pos (by omega), ew1]) (Ev.now _), ?_⟩
        rw [if_pos h2, k1]; rfl
      · refine ⟨_, Ev.congr (fun k => by unfold marqueeref04_one.f; rw [if_pos (by omega), ew, if_neg k0, if_pos k1, if_neg (by omega)]) (Ev.now _), ?_⟩
        rw [if_neg h2]
    · rw [if_neg k0, if_neg k1]
      have hf : ∀ k, marqueeref04_one.f k s = marqueeref04_one.j0 k s (bt s 0) (decide (bt s 0 = 2 ∨ bt s 0 = 3)) (bt s 0) 0 (⟨#[]⟩ : ByteArray) := fun k => by
        unfold marqueeref04_one.f
        rw [if_pos (by omega), ew, if_neg k0, if_neg k1]
        by_cases k2 : bt s 0 = 2
        · rw [if_pos k2, show (bt s 0 == 2) = decide (bt s 0 = 2 ∨ bt s 0 = 3) by simp [k2]]
        · rw [if_neg k2, show (bt s 0 == 3) = decide (bt s 0 = 2 ∨ bt s 0 = 3) by by_cases k3 : bt s 0 = 3 <;> simp [k2, k3]]
      by_cases k23 : bt s 0 = 2 ∨ bt s 0 = 3
      · rw [if_pos k23]
        by_cases h9 : 9 ≤ s.size
        · refine ⟨_, Ev.congr hf (Ev.next (rLoop s h9 (bt s 0) 8 (by omega)) (fun k => by rw [marqueeref04_one.j0_eq, if_pos (decide_eq_true k23), if_pos (by omega)]; rfl)), ?_⟩
          rw [if_pos h9]; rfl
        · refine ⟨_, Ev.congr hf (Ev.stops (fun k => by rw [marqueeref04_one.j0_eq, if_pos (decide_eq_true k23), if_neg (by omega)])), ?_⟩
          rw [if_neg h9]
      · rw [if_neg k23]
        by_cases k4 : bt s 0 = 4
        · rw [if_pos k4]
          by_cases h3 : 3 ≤ s.size
          · rw [if_pos h3]
            have hl := low2 s h3
            generalize (lowN s 1 2).toNat = m at hl ⊢
            by_cases h : 3 + m ≤ s.size
            · refine ⟨_, Ev.congr hf (Ev.stops (fun k => by rw [marqueeref04_one.j0_eq, if_neg (by simpa using k23), if_pos k4, if_pos (by omega), if_pos (by omega), if_pos (by omega), hl, if_pos (by omega), if_pos (by omega), if_pos (by omega), Int.toNat_natCast])), ?_⟩
              rw [if_pos h, k4]
            · refine ⟨_, Ev.congr hf (Ev.stops (fun k => by rw [marqueeref04_one.j0_eq, if_neg (by simpa using k23), if_pos k4, if_pos (by omega), if_pos (by omega), if_pos (by omega), hl, if_neg (by omega)])), ?_⟩
              rw [if_neg h]
          · refine ⟨_, Ev.congr hf (Ev.stops (fun k => by rw [marqueeref04_one.j0_eq, if_neg (by simpa using k23), if_pos k4, if_neg (by omega)])), ?_⟩
            rw [if_neg h3]
        · rw [if_neg k4]
          exact ⟨_, Ev.congr hf (Ev.stops (fun k => by rw [marqueeref04_one.j0_eq, if_neg (by simpa using k23), if_neg k4])), rfl⟩
end Go.Proofs.YtiabggpijomjmaaDoor
namespace Go.Proofs.YtiabggpijomjmaaDoor
open Go.RowKit Print Go.Proofs.YtiabggpijomjmaaDoorW.PrintWords Go.Proofs.YtiabggpijomjmaaDoorW.PrintLast Go.Proofs.YtiabggpijomjmaaDoorW.PrintMore
theorem key_Decode.l0_eq (k : Nat) (x0 : ByteArray) (x4 : List (S53)) : key_Decode.l0 (k + 1) x0 x4 = if x0.toList = ([] : List UInt8) then (some (x4, 0)) else ((key_one.f k x0).bind fun bt158 => (if bt158.2.2.2.2 = true then (if x4.length < 4398046511104 then (key_Decode.l0 k bt158.2.2.2.1 (x4 ++ [(⟨bt158.1, bt158.2.1, bt158.2.2.1⟩ : S53)])) else (none)) else (some (([] : List (S53)), 31)))) := by
  rw [key_Decode.l0]
theorem nil_iff (s : ByteArray) : s.toList = ([] : List UInt8) ↔ s.size = 0 := by
  rw [ByteArray.toList_eq]
  constructor
  · intro h
    have := data_length s
    rw [h] at this
    exact this.symm
  · intro h
    have := data_length s
    rw [h] at this
    exact List.eq_nil_of_length_eq_zero this
theorem raw1_in (s : ByteArray) (h1 : 1 ≤ s.size) (x : S53) (n : Nat) (h : raw1 s = some (x, n)) : 1 ≤ n ∧ n ≤ s.size ∧ x.f2.size ≤ s.size := by
  unfold raw1 at h
  by_cases k0 : bt s 0 = 0
  · rw [if_pos k0] at h; cases h; exact ⟨by omega, h1, Nat.zero_le _⟩
  · rw [if_neg k0] at h
    by_cases k1 : bt s 0 = 1
    · rw [if_pos k1] at h
      by_cases h2 : 2 ≤ s.size
      · rw [if_pos h2] at h; cases h; exact ⟨by omega, h2, Nat.zero_le _⟩
      · rw [if_neg h2] at h; cases h
    · rw [if_neg k1] at h
      by_cases k23 : bt s 0 = 2 ∨ bt s 0 = 3
      · rw [if_pos k23] at h
        by_cases h9 : 9 ≤ s.size
        · rw [if_pos h9] at h; cases h; exact ⟨by omega, h9, Nat.zero_le _⟩
        · rw [if_neg h9] at h; cases h
      · rw [if_neg k23] at h
        by_cases k4 : bt s 0 = 4
        · rw [if_pos k4] at h
          by_cases h3 : 3 ≤ s.size
          · rw [if_pos h3] at h
            by_cases h5 : 3 + (lowN s 1 2).toNat ≤ s.size
            · rw [if_pos h5] at h; cases h
              refine ⟨by omega, h5, ?_⟩
              rw [ByteArray.size_extract]; omega
            · rw [if_neg h5] at h; cases h
          · rw [if_neg h3] at h; cases h
        · rw [if_neg k4] at h; cases h
noncomputable def decFrom : Nat → ByteArray → List S53 → List S53 × Int
  | 0, _, acc => (acc, 0)
  | d + 1, s, acc =>
    if s.size = 0 then (acc, 0)
    else match raw1 s with
      | none => ([], 31)
      | some (x, n) => if okV x.f0 x.f1 x.f2 = true then decFrom d (s.extract n s.size) (acc ++ [x]) else ([], 31)
theorem kDec_from : ∀ d (s : ByteArray) (acc : List S53), s.size ≤ d → acc.length + s.size < 4398046511104 → Ev (fun k => key_Decode.l0 k s acc) (decFrom d s acc)
  | 0, s, acc, h, hb => by
    refine Ev.stops (fun k => ?_)
    rw [key_Decode.l0_eq, if_pos ((nil_iff s).mpr (by omega))]; rfl
  | d + 1, s, acc, h, hb => by
    rw [decFrom]
    by_cases hz : s.size = 0
    · rw [if_pos hz]
      refine Ev.stops (fun k => ?_)
      rw [key_Decode.l0_eq, if_pos ((nil_iff s).mpr hz)]
    · rw [if_neg hz]
      obtain ⟨r, hr, hk⟩ := kOne s (by omega) (by omega)
      have hi := raw1_in s (by omega)
      unfold KeyR at hk
      refine Ev.step (fun k => by rw [key_Decode.l0_eq, if_neg (fun hh => hz ((nil_iff s).mp hh))]) (Ev.bind hr ?_)
      cases hc : raw1 s with
      | none =>
        rw [hc] at hk
        exact Ev.congr (fun k => by rw [if_neg (by rw [hk]; decide)]) (Ev.now _)
      | some p =>
        obtain ⟨x, n⟩ := p
        rw [hc] at hk
        obtain ⟨i1, i2, i3⟩ := hi x n hc
        have hk' : r = (x.f0, x.f1, x.f2, s.extract n s.size, okV x.f0 x.f1 x.f2) := hk
        subst hk'
        show Ev _ (if okV x.f0 x.f1 x.f2 = true then decFrom d (s.extract n s.size) (acc ++ [x]) else ([], 31))
        by_cases ho : okV x.f0 x.f1 x.f2 = true
        · rw [if_pos ho]
          have hz2 := ext_size s n
          have IH := kDec_from d (s.extract n s.size) (acc ++ [x]) (by omega) (by rw [List.length_append, hz2]; simp; omega)
          exact Ev.congr (fun k => by rw [if_pos ho, if_pos (by omega)]) IH
        · rw [if_neg ho]
          exact Ev.congr (fun k => by rw [if_neg ho]) (Ev.now _)
theorem rDec_from : ∀ d (s : ByteArray) (acc : List S53), s.size ≤ d → acc.length + s.size < 4398046511104 → Ev (fun k => marqueeref04_Decode.l0 k s acc) (decFrom d s acc)
  | 0, s, acc, h, hb => by
    refine Ev.stops (fun k => ?_)
    rw [marqueeref04_Decode.l0_eq, if_pos ((nil_iff s).mpr (by omega))]; rfl
  | d + 1, s, acc, h, hb => by
    rw [decFrom]
    by_cases hz : s.size = 0
    · rw [if_pos hz]
      refine Ev.stops (fun k => ?_)
      rw [marqueeref04_Decode.l0_eq, if_pos ((nil_iff s).mpr hz)]
    · rw [if_neg hz]
      obtain ⟨r, hr, hk⟩ := rOne s (by omega) (by omega)
      have hi := raw1_in s (by omega)
      unfold RefR at hk
      refine Ev.step (fun k => by rw [marqueeref04_Decode.l0_eq, if_neg (fun hh => hz ((nil_iff s).mp hh))]) (Ev.bind hr ?_)
      cases hc : raw1 s with
      | none =>
        rw [hc] at hk
        exact Ev.congr (fun k => by rw [if_pos hk]) (Ev.now _)
      | some p =>
        obtain ⟨x, n⟩ := p
        rw [hc] at hk
        obtain ⟨i1, i2, i3⟩ := hi x n hc
        have hk' : r = (x.f0, x.f1, x.f2, (n : Int)) := hk
        subst hk'
        show Ev _ (if okV x.f0 x.f1 x.f2 = true then decFrom d (s.extract n s.size) (acc ++ [x]) else ([], 31))
        have hm := may_ev x.f0 x.f1 x.f2 (by omega)
        refine Ev.congr (fun k => by rw [if_neg (show ¬ (n : Int) = 0 by omega)]) (Ev.bind hm ?_)
        by_cases ho : okV x.f0 x.f1 x.f2 = true
        · rw [if_pos ho]
          have hz2 := ext_size s n
          have IH := rDec_from d (s.extract n s.size) (acc ++ [x]) (by omega) (by rw [List.length_append, hz2]; simp; omega)
          exact Ev.congr (fun k => by rw [if_pos ho, if_pos (by omega), if_pos (show (0 : Int) ≤ (n : Int) by omega), if_pos (show (n : Int) ≤ (s.size : Int) by omega)]; rfl) IH
        · rw [if_neg ho]
          exact Ev.congr (fun k => by rw [if_neg ho]) (Ev.now _)
noncomputable def decV (s : ByteArray) : List S53 × Int := decFrom s.size s []
theorem kDec_ev (s : ByteArray) (h : s.size < 4398046511104) : Ev (fun k => key_Decode.f k s) (decV s) := kDec_from s.size s [] (Nat.le_refl _) (by simpa using h)
theorem rDec_ev (s : ByteArray) (h : s.size < 4398046511104) : Ev (fun k => marqueeref04_Decode.f k s) (decV s) := rDec_from s.size s [] (Nat.le_refl _) (by simpa using h)
end Go.Proofs.YtiabggpijomjmaaDoor
