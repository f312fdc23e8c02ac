import Derived.Test.YtnfaoofddokjgaaDoorPx9
import Derived.Test.YtnfaoofddokjgaaDoorPlRunes
namespace Go.Proofs.YtnfaoofddokjgaaDoor
open Go.RowKit Print Go.Proofs.YtnfaoofddokjgaaDoorW.PrintWords
def tailV (s : ByteArray) (i : Nat) : Bool := Lib.validD (s.data.toList.drop i)
theorem bt_byte (s : ByteArray) (i : Nat) (h : i < s.size) : bt s (i : Int) = (((s.data.toList.drop i).getD 0 0).toNat : Int) := by
  unfold bt
  rw [dif_pos (by simpa using h)]
  have h2 : i < s.data.toList.length := by simpa using h
  rw [List.getD_eq_getElem?_getD, List.getElem?_drop, Nat.add_zero, List.getElem?_eq_getElem h2]
  rfl
theorem bt_byte' (s : ByteArray) (i j : Nat) (h : i + j < s.size) : bt s ((i : Int) + (j : Int)) = (((s.data.toList.drop i).getD j 0).toNat : Int) := by
  unfold bt
  rw [dif_pos (by simpa using (by omega : ((i : Int) + (j : Int)).toNat < s.size))]
  have h2 : i + j < s.data.toList.length := by simpa using h
  rw [List.getD_eq_getElem?_getD, List.getElem?_drop, List.getElem?_eq_getElem h2]
  rfl
theorem tailV_end (s : ByteArray) (i : Nat) (h : s.size ≤ i) : tailV s i = true := by
  unfold tailV
  rw [List.drop_eq_nil_of_le (by simpa using h)]
  rfl
/-- What the document's reference finds at place i, in terms of the rest. -/
theorem tailV_step (s : ByteArray) (i : Nat) (h : i < s.size) :
    tailV s i = match refN ((s.size : Int) - i) (bt s i) (bt s ((i : Int) + (1 : Nat))) (bt s ((i : Int) + (2 : Nat))) (bt s ((i : Int) + (3 : Nat))) with | none => false | some m => tailV s (i + m) := by
  have hlen : (s.data.toList.drop i).length = s.size - i := by simp
  have hne : s.data.toList.drop i ≠ [] := by intro e; rw [e] at hlen; simp at hlen; omega
  by_cases hc : bt s i < 128
  · have : refN ((s.size : Int) - i) (bt s i) (bt s ((i : Int) + (1 : Nat))) (bt s ((i : Int) + (2 : Nat))) (bt s ((i : Int) + (3 : Nat))) = some 1 := by unfold refN; rw [if_pos hc]
    rw [this]
    show Lib.validD (s.data.toList.drop i) = Lib.validD (s.data.toList.drop (i + 1))
    rw [bt_byte s i h] at hc
    rw [Lib.validD_ascii 1 _ (fun b hb => ?_), List.drop_drop]
    cases hl : s.data.toList.drop i with
    | nil => exact absurd hl hne
    | cons x t =>
      rw [hl] at hb hc
      simp at hb hc
      subst hb
      omega
  · have hc' := hc
    rw [bt_byte s i h] at hc'
    unfold tailV
    rw [Lib.validD_lead _ hne (by omega), hlen]
    have e : refN ((s.size : Int) - i) (bt s i) (bt s ((i : Int) + (1 : Nat))) (bt s ((i : Int) + (2 : Nat))) (bt s ((i : Int) + (3 : Nat))) =
        refN ((s.size - i : Nat) : Int) (((s.data.toList.drop i).getD 0 0).toNat : Int) (((s.data.toList.drop i).getD 1 0).toNat : Int) (((s.data.toList.drop i).getD 2 0).toNat : Int) (((s.data.toList.drop i).getD 3 0).toNat : Int) := by
      rw [← bt_byte s i h, show ((s.size - i : Nat) : Int) = (s.size : Int) - i by omega]
      have out : ∀ j, ¬ i + j < s.size → (s.size : Int) - i ≤ j := fun j hj => by omega
      by_cases h1 : i + 1 < s.size
      · rw [← bt_byte' s i 1 h1]
        by_cases h2 : i + 2 < s.size
        · rw [← bt_byte' s i 2 h2]
          by_cases h3 : i + 3 < s.size
          · rw [← bt_byte' s i 3 h3]
          · have := out 3 h3
            unfold refN
            rw [if_pos (show (s.size : Int) - i < 4 by omega), if_pos (show (s.size : Int) - i < 4 by omega)]
        · have := out 2 h2
          unfold refN
          rw [if_pos (show (s.size : Int) - i < 4 by omega), if_pos (show (s.size : Int) - i < 3 by omega), if_pos (show (s.size : Int) - i < 4 by omega), if_pos (show (s.size : Int) - i < 3 by omega)]
      · have := out 1 h1
        unfold refN
        rw [if_pos (show (s.size : Int) - i < 4 by omega), if_pos (show (s.size : Int) - i < 3 by omega), if_pos (show (s.size : Int) - i < 2 by omega), if_pos (show (s.size : Int) - i < 4 by omega), if_pos (show (s.size : Int) - i < 3 by omega), if_pos (show (s.size : Int) - i < 2 by omega)]
    rw [e, refN_check _ _ _ _ _ (by omega) (UInt8.toNat_lt _) (UInt8.toNat_lt _) (UInt8.toNat_lt _) (UInt8.toNat_lt _)]
    generalize Lib.checkN _ _ _ _ _ _ _ = o
    cases o
    · rfl
    · simp only [List.drop_drop]
theorem marqueeref01_Runes.l0_eq (k : Nat) (x0 : ByteArray) (x3 : Int) : marqueeref01_Runes.l0 (k + 1) x0 x3 = if x3 < (x0.size : Int) then (if 0 ≤ x3 then (if (wrap64 (bt x0 x3)) < 128 then (marqueeref01_Runes.j3 k x0 x3 1 0 (wrap64 (bt x0 x3))) else (if (wrap64 (bt x0 x3)) ≥ 192 then (marqueeref01_Runes.j1 k x0 x3 (wrap64 (bt x0 x3)) (decide ((wrap64 (bt x0 x3)) < 224))) else (marqueeref01_Runes.j1 k x0 x3 (wrap64 (bt x0 x3)) false))) else (none)) else (some true) := by
  rw [marqueeref01_Runes.l0]
theorem marqueeref01_Runes.j3_eq (k : Nat) (x0 : ByteArray) (x3 : Int) (x5 : Int) (x6 : Int) (x7 : Int) : marqueeref01_Runes.j3 (k + 1) x0 x3 x5 x6 x7 = if (wrap64 ((x0.size : Int) - x3)) < x5 then (some false) else (marqueeref01_Runes.l1 k x0 x3 x5 x6 x7 1) := by
  rw [marqueeref01_Runes.j3]
theorem marqueeref01_Runes.l1_eq (k : Nat) (x0 : ByteArray) (x3 : Int) (x5 : Int) (x6 : Int) (x7 : Int) (x8 : Int) : marqueeref01_Runes.l1 (k + 1) x0 x3 x5 x6 x7 x8 = if x8 < x5 then (if 0 ≤ (wrap64 (x3 + x8)) then (if (wrap64 (x3 + x8)) < (x0.size : Int) then (if (wrap64 (bt x0 (wrap64 (x3 + x8)))) < 128 then (some false) else (if (wrap64 (bt x0 (wrap64 (x3 + x8)))) ≥ 192 then (some false) else (marqueeref01_Runes.l1 k x0 x3 x5 x6 (wrap64 ((wrap64 ((wrap64 (x7 * 64)) + (wrap64 (bt x0 (wrap64 (x3 + x8)))))) - 128)) (wrap64 (x8 + 1))))) else (none)) else (none)) else (if x7 < x6 then (some false) else (if x7 > 1114111 then (some false) else (if x7 ≥ 55296 then (if x7 < 57344 then (some false) else (marqueeref01_Runes.l0 k x0 (wrap64 (x3 + x5)))) else (marqueeref01_Runes.l0 k x0 (wrap64 (x3 + x5)))))) := by
  rw [marqueeref01_Runes.l1]
theorem marqueeref01_Runes.j1_eq (k : Nat) (x0 : ByteArray) (x3 : Int) (x4 : Int) (x22 : Bool) : marqueeref01_Runes.j1 (k + 1) x0 x3 x4 x22 = if x22 = true then (marqueeref01_Runes.j3 k x0 x3 2 128 (wrap64 (x4 - 192))) else (if x4 ≥ 224 then (marqueeref01_Runes.j2 k x0 x3 x4 (decide (x4 < 240))) else (marqueeref01_Runes.j2 k x0 x3 x4 false)) := by
  rw [marqueeref01_Runes.j1]
theorem marqueeref01_Runes.j2_eq (k : Nat) (x0 : ByteArray) (x3 : Int) (x4 : Int) (x31 : Bool) : marqueeref01_Runes.j2 (k + 1) x0 x3 x4 x31 = if x31 = true then (marqueeref01_Runes.j3 k x0 x3 3 2048 (wrap64 (x4 - 224))) else (if x4 ≥ 240 then (if x4 < 248 then (marqueeref01_Runes.j3 k x0 x3 4 65536 (wrap64 (x4 - 240))) else (some false)) else (some false)) := by
  rw [marqueeref01_Runes.j2]
section
variable (s : ByteArray)
theorem Ev.next {α : Type} {g f : Nat → Option α} {r : α} (k : Ev f r) (h : ∀ k, g (k + 1) = f k) : Ev g r := Ev.step h k
theorem Ev.stops {α : Type} {g : Nat → Option α} {r : α} (h : ∀ k, g (k + 1) = some r) : Ev g r := Ev.step (f := fun _ => some r) h (Ev.now r)
theorem l1_go (i n : Nat) (v : Int) (least : Int) (j : Nat) (hj : j < n) (hi : i + n ≤ s.size) (hv : 0 ≤ v ∧ v < 1000000) (r : Bool) (hs : s.size ≤ 9223372036854775807)
    (h1 : bt s ((i : Int) + (j : Nat)) < 128 ∨ bt s ((i : Int) + (j : Nat)) ≥ 192 → r = false)
    (h2 : 128 ≤ bt s ((i : Int) + (j : Nat)) → bt s ((i : Int) + (j : Nat)) < 192 → Ev (fun k => marqueeref01_Runes.l1 k s i n least (v * 64 + bt s ((i : Int) + (j : Nat)) - 128) ((j + 1 : Nat) : Int)) r) :
    Ev (fun k => marqueeref01_Runes.l1 k s i n least v (j : Int)) r := by
  have hb := bt_range s ((i : Int) + (j : Nat))
  have e1 := Aside0.mk (show wrap64 ((i : Int) + (j : Nat)) = (i : Int) + (j : Nat) from w64 (by omega) (by omega))
  have e2 := Aside0.mk (show wrap64 (bt s ((i : Int) + (j : Nat))) = bt s ((i : Int) + (j : Nat)) from w64 (by omega) (by omega))
  have e3 := Aside0.mk (show wrap64 (v * 64) = v * 64 from w64 (by omega) (by omega))
  have e4 := Aside0.mk (show wrap64 (v * 64 + bt s ((i : Int) + (j : Nat))) = v * 64 + bt s ((i : Int) + (j : Nat)) from w64 (by omega) (by omega))
  have e5 := Aside0.mk (show wrap64 (v * 64 + bt s ((i : Int) + (j : Nat)) - 128) = v * 64 + bt s ((i : Int) + (j : Nat)) - 128 from w64 (by omega) (by omega))
  have e6 := Aside0.mk (show wrap64 ((j : Int) + 1) = ((j + 1 : Nat) : Int) from by rw [w64 (by omega) (by omega)]; omega)
  by_cases c1 : bt s ((i : Int) + (j : Nat)) < 128
  · rw [h1 (.inl c1)]
    refine Ev.stops (fun k => ?_)
    rw [marqueeref01_Runes.l1_eq]
    rw [if_pos (by omega), e1.out, if_pos (by omega), if_pos (by omega), e2.out, if_pos c1]
  · by_cases c2 : bt s ((i : Int) + (j : Nat)) ≥ 192
    · rw [h1 (.inr c2)]
      refine Ev.stops (fun k => ?_)
      rw [marqueeref01_Runes.l1_eq]
      rw [if_pos (by omega), e1.out, if_pos (by omega), if_pos (by omega), e2.out, if_neg c1, if_pos c2]
    · refine Ev.next (h2 (by omega) (by omega)) (fun k => ?_)
      rw [marqueeref01_Runes.l1_eq]
      rw [if_pos (by omega), e1.out, if_pos (by omega), if_pos (by omega), e2.out, if_neg c1, if_neg c2, e3.out, e4.out, e5.out, e6.out]
theorem l1_end (i n : Nat) (v : Int) (least : Int) (hi : i + n ≤ s.size) (r : Bool) (hs : s.size ≤ 9223372036854775807)
    (h1 : (v < least ∨ v > 1114111 ∨ (v ≥ 55296 ∧ v < 57344)) → r = false)
    (h2 : ¬ (v < least ∨ v > 1114111 ∨ (v ≥ 55296 ∧ v < 57344)) → Ev (fun k => marqueeref01_Runes.l0 k s ((i + n : Nat) : Int)) r) :
    Ev (fun k => marqueeref01_Runes.l1 k s i n least v (n : Int)) r := by
  have e1 := Aside0.mk (show wrap64 ((i : Int) + (n : Int)) = ((i + n : Nat) : Int) from by rw [w64 (by omega) (by omega)]; omega)
  by_cases c : (v < least ∨ v > 1114111 ∨ (v ≥ 55296 ∧ v < 57344))
  · rw [h1 c]
    refine Ev.stops (fun k => ?_)
    rw [marqueeref01_Runes.l1_eq]
    rw [if_neg (by omega)]
    repeat' split
    all_goals first | rfl | (exfalso; omega)
  · refine Ev.next (h2 c) (fun k => ?_)
    rw [marqueeref01_Runes.l1_eq]
    rw [if_neg (by omega), if_neg (by omega), if_neg (by omega), e1.out]
    repeat' split
    all_goals first | rfl | (exfalso; omega)
theorem j3_go (i n : Nat) (least v : Int) (r : Bool) (hi : i < s.size) (hs : s.size ≤ 9223372036854775807)
    (h1 : (s.size : Int) - i < n → r = false) (h2 : i + n ≤ s.size → Ev (fun k => marqueeref01_Runes.l1 k s i n least v ((1 : Nat) : Int)) r) :
    Ev (fun k => marqueeref01_Runes.j3 k s i n least v) r := by
  have e1 := Aside0.mk (show wrap64 ((s.size : Int) - i) = (s.size : Int) - i from w64 (by omega) (by omega))
  by_cases c : (s.size : Int) - i < n
  · rw [h1 c]
    refine Ev.stops (fun k => ?_)
    rw [marqueeref01_Runes.j3_eq]
    rw [e1.out, if_pos c]
  · refine Ev.next (h2 (by omega)) (fun k => ?_)
    rw [marqueeref01_Runes.j3_eq]
    rw [e1.out, if_neg c]; rfl
theorem runes_from (hs : s.size ≤ 9223372036854775807) : ∀ (d i : Nat), s.size - i ≤ d → i ≤ s.size → Ev (fun k => marqueeref01_Runes.l0 k s (i : Int)) (tailV s i)
  | 0, i, hd, hi => by
    rw [tailV_end s i (by omega)]
    refine Ev.stops (fun k => ?_)
    rw [marqueeref01_Runes.l0_eq]
    rw [if_neg (by omega)]
  | d + 1, i, hd, hi => by
    by_cases hlt : i < s.size
    · have hb := bt_range s i
      have hV := tailV_step s i hlt
      have IH : ∀ m, 0 < m → i + m ≤ s.size → Ev (fun k => marqueeref01_Runes.l0 k s ((i + m : Nat) : Int)) (tailV s (i + m)) := fun m h0 hm => runes_from hs d (i + m) (by omega) hm
      have e1 := Aside0.mk (show wrap64 (bt s i) = bt s i from w64 (by omega) (by omega))
      obtain ⟨c, hc⟩ : ∃ c, bt s i = c := ⟨_, rfl⟩
      have bb1 := bt_range s ((i : Int) + (1 : Nat))
      have bb2 := bt_range s ((i : Int) + (2 : Nat))
      have bb3 := bt_range s ((i : Int) + (3 : Nat))
      obtain ⟨b1, hb1⟩ : ∃ b, bt s ((i : Int) + (1 : Nat)) = b := ⟨_, rfl⟩
      obtain ⟨b2, hb2⟩ : ∃ b, bt s ((i : Int) + (2 : Nat)) = b := ⟨_, rfl⟩
      obtain ⟨b3, hb3⟩ : ∃ b, bt s ((i : Int) + (3 : Nat)) = b := ⟨_, rfl⟩
      rw [hc] at hb hV e1
      rw [hb1] at hV bb1
      rw [hb2] at hV bb2
      rw [hb3] at hV bb3
      by_cases c0 : c < 128
      · have hr : refN ((s.size : Int) - i) c b1 b2 b3 = some 1 := by unfold refN; rw [if_pos c0]
        rw [hr] at hV
        rw [hV]
        have hl0 : ∀ k, marqueeref01_Runes.l0 (k + 1) s (i : Int) = marqueeref01_Runes.j3 k s i 1 0 c := fun k => by
          rw [marqueeref01_Runes.l0_eq]
          rw [if_pos (by omega), if_pos (by omega), hc, e1.out, if_pos c0]
        refine Ev.next (j3_go s i 1 0 c _ hlt hs (fun h => by omega) (fun h => ?_)) hl0
        refine l1_end s i 1 c 0 (by omega) _ hs (fun h => by omega) (fun _ => IH 1 (by omega) (by omega))
      · by_cases c1 : c < 192
        · have hr : refN ((s.size : Int) - i) c b1 b2 b3 = none := by unfold refN; rw [if_neg c0, if_pos c1]
          rw [hr] at hV
          rw [hV]
          have h1 : ∀ k, marqueeref01_Runes.l0 (k + 1) s (i : Int) = marqueeref01_Runes.j1 k s i c false := fun k => by
            rw [marqueeref01_Runes.l0_eq]
            rw [if_pos (by omega), if_pos (by omega), hc, e1.out, if_neg c0, if_neg (by omega)]
          have h2 : ∀ k, marqueeref01_Runes.j1 (k + 1) s (i : Int) c false = marqueeref01_Runes.j2 k s i c false := fun k => by
            rw [marqueeref01_Runes.j1_eq]
            rw [if_neg (by decide), if_neg (by omega)]
          have h3 : ∀ k, marqueeref01_Runes.j2 (k + 1) s (i : Int) c false = some false := fun k => by
            rw [marqueeref01_Runes.j2_eq]
            rw [if_neg (by decide), if_neg (by omega)]
          exact Ev.next (Ev.next (Ev.stops h3) h2) h1
        · have h1 : ∀ k, marqueeref01_Runes.l0 (k + 1) s (i : Int) = marqueeref01_Runes.j1 k s i c (decide (c < 224)) := fun k => by
            rw [marqueeref01_Runes.l0_eq]
            rw [if_pos (by omega), if_pos (by omega), hc, e1.out, if_neg c0, if_pos (by omega)]
          refine Ev.next ?_ h1
          by_cases c2 : c < 224
          · have hr : refN ((s.size : Int) - i) c b1 b2 b3 = (if (s.size : Int) - i < 2 then none else if b1 < 128 then none else if b1 ≥ 192 then none else if (c - 192) * 64 + b1 - 128 < 128 then none else some 2) := by unfold refN; rw [if_neg c0, if_neg c1, if_pos c2]
            rw [hr] at hV
            have e2 := Aside0.mk (show wrap64 (c - 192) = c - 192 from w64 (by omega) (by omega))
            have h2 : ∀ k, marqueeref01_Runes.j1 (k + 1) s (i : Int) c (decide (c < 224)) = marqueeref01_Runes.j3 k s i 2 128 (c - 192) := fun k => by
              rw [marqueeref01_Runes.j1_eq]
              rw [if_pos (decide_eq_true c2), e2.out]
            refine Ev.next (j3_go s i 2 128 (c - 192) _ hlt hs (fun h => ?_) (fun h => ?_)) h2
            · rw [hV, if_pos (by omega)]
            · rw [if_neg (by omega)] at hV
              refine l1_go s i 2 (c - 192) 128 1 (by omega) h (by omega) _ hs (fun hh => ?_) (fun ha hb => ?_)
              · rw [hb1] at hh
                rcases hh with hh | hh
                · rw [hV, if_pos hh]
                · rw [hV, if_neg (by omega), if_pos hh]
              · rw [hb1] at ha hb ⊢
                rw [if_neg (by omega), if_neg (by omega)] at hV
                refine l1_end s i 2 _ 128 h _ hs (fun hh => ?_) (fun hh => ?_)
                · rw [hV, if_pos (by omega)]
                · rw [hV, if_neg (by omega)]; exact IH 2 (by omega) h
          · have h2 : ∀ k, marqueeref01_Runes.j1 (k + 1) s (i : Int) c (decide (c < 224)) = marqueeref01_Runes.j2 k s i c (decide (c < 240)) := fun k => by
              rw [marqueeref01_Runes.j1_eq]
              rw [if_neg (by simpa using c2), if_pos (by omega)]
            refine Ev.next ?_ h2
            by_cases c3 : c < 240
            · have hr : refN ((s.size : Int) - i) c b1 b2 b3 = (if (s.size : Int) - i < 3 then none else if b1 < 128 then none else if b1 ≥ 192 then none else if b2 < 128 then none else if b2 ≥ 192 then none
    else if ((c - 224) * 64 + b1 - 128) * 64 + b2 - 128 < 2048 then none else if ((c - 224) * 64 + b1 - 128) * 64 + b2 - 128 ≥ 55296 ∧ ((c - 224) * 64 + b1 - 128) * 64 + b2 - 128 < 57344 then none else some 3) := by unfold refN; rw [if_neg c0, if_neg c1, if_neg c2, if_pos c3]
              rw [hr] at hV
              have e2 := Aside0.mk (show wrap64 (c - 224) = c - 224 from w64 (by omega) (by omega))
              have h3 : ∀ k, marqueeref01_Runes.j2 (k + 1) s (i : Int) c (decide (c < 240)) = marqueeref01_Runes.j3 k s i 3 2048 (c - 224) := fun k => by
                rw [marqueeref01_Runes.j2_eq]
                rw [if_pos (decide_eq_true c3), e2.out]
              refine Ev.next (j3_go s i 3 2048 (c - 224) _ hlt hs (fun h => ?_) (fun h => ?_)) h3
              · rw [hV, if_pos (by omega)]
              · rw [if_neg (by omega)] at hV
                refine l1_go s i 3 (c - 224) 2048 1 (by omega) h (by omega) _ hs (fun hh => ?_) (fun ha hb => ?_)
                · rw [hb1] at hh
                  rcases hh with hh | hh
                  · rw [hV, if_pos hh]
                  · rw [hV, if_neg (by omega), if_pos hh]
                · rw [hb1] at ha hb ⊢
                  rw [if_neg (by omega), if_neg (by omega)] at hV
                  refine l1_go s i 3 _ 2048 2 (by omega) h (by omega) _ hs (fun hh => ?_) (fun ha2 hbb2 => ?_)
                  · rw [hb2] at hh
                    rcases hh with hh | hh
                    · rw [hV, if_pos hh]
                    · rw [hV, if_neg (by omega), if_pos hh]
                  · rw [hb2] at ha2 hbb2 ⊢
                    rw [if_neg (by omega), if_neg (by omega)] at hV
                    refine l1_end s i 3 _ 2048 h _ hs (fun hh => ?_) (fun hh => ?_)
                    · rcases hh with hh | hh | hh
                      · rw [hV, if_pos hh]
                      · exfalso; omega
                      · by_cases hx : ((c - 224) * 64 + b1 - 128) * 64 + b2 - 128 < 2048
                        · rw [hV, if_pos hx]
                        · rw [hV, if_neg hx, if_pos hh]
                    · rw [hV, if_neg (by omega), if_neg (by omega)]; exact IH 3 (by omega) h
            · have h3 : ∀ k, marqueeref01_Runes.j2 (k + 1) s (i : Int) c (decide (c < 240)) = if c < 248 then marqueeref01_Runes.j3 k s i 4 65536 (wrap64 (c - 240)) else some false := fun k => by
                rw [marqueeref01_Runes.j2_eq]
                rw [if_neg (by simpa using c3), if_pos (by omega)]
              by_cases c4 : c < 248
              · have hr : refN ((s.size : Int) - i) c b1 b2 b3 = (if (s.size : Int) - i < 4 then none else if b1 < 128 then none else if b1 ≥ 192 then none else if b2 < 128 then none else if b2 ≥ 192 then none else if b3 < 128 then none else if b3 ≥ 192 then none
    else if (((c - 240) * 64 + b1 - 128) * 64 + b2 - 128) * 64 + b3 - 128 < 65536 then none else if (((c - 240) * 64 + b1 - 128) * 64 + b2 - 128) * 64 + b3 - 128 > 1114111 then none else some 4) := by unfold refN; rw [if_neg c0, if_neg c1, if_neg c2, if_neg c3, if_pos c4]
                rw [hr] at hV
                have e2 := Aside0.mk (show wrap64 (c - 240) = c - 240 from w64 (by omega) (by omega))
                have h4 : ∀ k, marqueeref01_Runes.j2 (k + 1) s (i : Int) c (decide (c < 240)) = marqueeref01_Runes.j3 k s i 4 65536 (c - 240) := fun k => by rw [h3, if_pos c4, e2.out]
                refine Ev.next (j3_go s i 4 65536 (c - 240) _ hlt hs (fun h => ?_) (fun h => ?_)) h4
                · rw [hV, if_pos (by omega)]
                · rw [if_neg (by omega)] at hV
                  refine l1_go s i 4 (c - 240) 65536 1 (by omega) h (by omega) _ hs (fun hh => ?_) (fun ha hb => ?_)
                  · rw [hb1] at hh
                    rcases hh with hh | hh
                    · rw [hV, if_pos hh]
                    · rw [hV, if_neg (by omega), if_pos hh]
                  · rw [hb1] at ha hb ⊢
                    rw [if_neg (by omega), if_neg (by omega)] at hV
                    refine l1_go s i 4 _ 65536 2 (by omega) h (by omega) _ hs (fun hh => ?_) (fun ha2 hbb2 => ?_)
                    · rw [hb2] at hh
                      rcases hh with hh | hh
                      · rw [hV, if_pos hh]
                      · rw [hV, if_neg (by omega), if_pos hh]
                    · rw [hb2] at ha2 hbb2 ⊢
                      rw [if_neg (by omega), if_neg (by omega)] at hV
                      refine l1_go s i 4 _ 65536 3 (by omega) h (by omega) _ hs (fun hh => ?_) (fun ha3 hbb3 => ?_)
                      · rw [hb3] at hh
                        rcases hh with hh | hh
                        · rw [hV, if_pos hh]
                        · rw [hV, if_neg (by omega), if_pos hh]
                      · rw [hb3] at ha3 hbb3 ⊢
                        rw [if_neg (by omega), if_neg (by omega)] at hV
                        refine l1_end s i 4 _ 65536 h _ hs (fun hh => ?_) (fun hh => ?_)
                        · rcases hh with hh | hh | hh
                          · rw [hV, if_pos hh]
                          · rw [hV, if_neg (by omega), if_pos hh]
                          · rw [hV, if_pos (by omega)]
                        · rw [hV, if_neg (by omega), if_neg (by omega)]; exact IH 4 (by omega) h
              · have hr : refN ((s.size : Int) - i) c b1 b2 b3 = none := by unfold refN; rw [if_neg c0, if_neg c1, if_neg c2, if_neg c3, if_neg c4]
                rw [hr] at hV
                rw [hV]
                exact Ev.stops (fun k => by rw [h3, if_neg c4])
    · rw [tailV_end s i (by omega)]
      refine Ev.stops (fun k => ?_)
      rw [marqueeref01_Runes.l0_eq]
      rw [if_neg (by omega)]
theorem runes_ev (hs : s.size ≤ 9223372036854775807) : Ev (fun k => marqueeref01_Runes.f k s) (Lib.validD s.data.toList) := runes_from s hs s.size 0 (by omega) (by omega)
end
end Go.Proofs.YtnfaoofddokjgaaDoor
