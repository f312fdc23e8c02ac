import Derived.Test.YtnfaoofddokjgaaDoorPx0
import Derived.Test.YtnfaoofddokjgaaDoorPx12
import Derived.Test.YtnfaoofddokjgaaDoorPx13
import Derived.Test.YtnfaoofddokjgaaDoorPlFits
namespace Go.Proofs.YtnfaoofddokjgaaDoor
open Go.RowKit Print Go.Proofs.YtnfaoofddokjgaaDoorW.PrintWords
def colEq (x y : S40) : Bool := (x.f0.toList == y.f0.toList) && (x.f1 == y.f1)
def valEq (x y : S38) : Bool := (x.f0 == y.f0) && ((x.f1 == y.f1) && (x.f2.toList == y.f2.toList))
def colsA (l m : List S40) : Nat → Nat → Bool
  | 0, _ => true
  | d + 1, i => colEq (rd_T40 l i) (rd_T40 m i) && colsA l m d (i + 1)
def valsA (l m : List S38) : Nat → Nat → Bool
  | 0, _ => true
  | d + 1, i => valEq (rd_T38 l i) (rd_T38 m i) && valsA l m d (i + 1)
def colsV (l m : List S40) : Bool := if l.length = m.length then colsA l m l.length 0 else false
def rowV (l m : List S38) : Bool := if l.length = m.length then valsA l m l.length 0 else false
theorem colsA_self (l : List S40) : ∀ d i, colsA l l d i = true
  | 0, _ => rfl
  | d + 1, i => by unfold colsA; rw [colsA_self l d (i + 1)]; simp [colEq]
theorem valsA_self (l : List S38) : ∀ d i, valsA l l d i = true
  | 0, _ => rfl
  | d + 1, i => by unfold valsA; rw [valsA_self l d (i + 1)]; simp [valEq]
theorem colsV_self (l : List S40) : colsV l l = true := by unfold colsV; rw [if_pos rfl]; exact colsA_self l _ _
theorem rowV_self (l : List S38) : rowV l l = true := by unfold rowV; rw [if_pos rfl]; exact valsA_self l _ _
section
variable (l m : List S40) (hl : l.length ≤ maxLen) (he : l.length = m.length)
include hl he
theorem sCols_from : ∀ (d i : Nat), i + d = l.length → Ev (fun k => api_Column_28.l0 k l m (l.length : Int) (i : Int)) (colsA l m d i)
  | 0, i, h => by
    refine Ev.stops (fun k => ?_)
    rw [api_Column_28.l0, if_neg (by omega)]; rfl
  | d + 1, i, h => by
    have hl' := hl
    unfold maxLen at hl'
    have e1 := wrap_succ (show i < l.length by omega) (by omega)
    have IH := sCols_from d (i + 1) (by omega)
    have step : ∀ k, api_Column_28.l0 (k + 1) l m (l.length : Int) (i : Int) = if colEq (rd_T40 l i) (rd_T40 m i) = true then api_Column_28.l0 k l m (l.length : Int) ((i + 1 : Nat) : Int) else some false := fun k => by
      rw [api_Column_28.l0, if_pos (by omega), if_pos (by omega), if_pos (by omega), if_pos (by omega), e1]
      unfold colEq
      cases ((rd_T40 l i).f0.toList == (rd_T40 m i).f0.toList) <;> cases ((rd_T40 l i).f1 == (rd_T40 m i).f1) <;> rfl
    unfold colsA
    cases c : colEq (rd_T40 l i) (rd_T40 m i)
    · rw [Bool.false_and]
      exact Ev.stops (fun k => by rw [step, if_neg (by rw [c]; decide)])
    · rw [Bool.true_and]
      exact Ev.next IH (fun k => by rw [step, if_pos c])
theorem rCols_from : ∀ (d i : Nat), i + d = l.length → Ev (fun k => marqueeref03_Columns.l0 k l m (i : Int)) (colsA l m d i)
  | 0, i, h => by
    refine Ev.stops (fun k => ?_)
    rw [marqueeref03_Columns.l0, if_neg (by omega)]; rfl
  | d + 1, i, h => by
    have hl' := hl
    unfold maxLen at hl'
    have e1 := wrap_succ (show i < l.length by omega) (by omega)
    have IH := rCols_from d (i + 1) (by omega)
    have step : ∀ k, marqueeref03_Columns.l0 (k + 1) l m (i : Int) = if colEq (rd_T40 l i) (rd_T40 m i) = true then marqueeref03_Columns.l0 k l m ((i + 1 : Nat) : Int) else some false := fun k => by
      rw [marqueeref03_Columns.l0, if_pos (by omega), if_pos (by omega), if_pos (by omega), e1]
      unfold colEq
      cases ((rd_T40 l i).f0.toList == (rd_T40 m i).f0.toList) <;> cases ((rd_T40 l i).f1 == (rd_T40 m i).f1) <;> rfl
    unfold colsA
    cases c : colEq (rd_T40 l i) (rd_T40 m i)
    · rw [Bool.false_and]
      exact Ev.stops (fun k => by rw [step, if_neg (by rw [c]; decide)])
    · rw [Bool.true_and]
      exact Ev.next IH (fun k => by rw [step, if_pos c])
end
section
variable (l m : List S38) (hl : l.length ≤ maxLen) (he : l.length = m.length)
include hl he
theorem sVals_from : ∀ (d i : Nat), i + d = l.length → Ev (fun k => api_Value.l0 k l m (l.length : Int) (i : Int)) (valsA l m d i)
  | 0, i, h => by
    refine Ev.stops (fun k => ?_)
    rw [api_Value.l0, if_neg (by omega)]; rfl
  | d + 1, i, h => by
    have hl' := hl
    unfold maxLen at hl'
    have e1 := wrap_succ (show i < l.length by omega) (by omega)
    have IH := sVals_from d (i + 1) (by omega)
    have step : ∀ k, api_Value.l0 (k + 1) l m (l.length : Int) (i : Int) = if valEq (rd_T38 l i) (rd_T38 m i) = true then api_Value.l0 k l m (l.length : Int) ((i + 1 : Nat) : Int) else some false := fun k => by
      rw [api_Value.l0, if_pos (by omega), if_pos (by omega), if_pos (by omega), if_pos (by omega), e1]
      unfold valEq
      cases ((rd_T38 l i).f0 == (rd_T38 m i).f0) <;> cases ((rd_T38 l i).f1 == (rd_T38 m i).f1) <;> cases ((rd_T38 l i).f2.toList == (rd_T38 m i).f2.toList) <;> rfl
    unfold valsA
    cases c : valEq (rd_T38 l i) (rd_T38 m i)
    · rw [Bool.false_and]
      exact Ev.stops (fun k => by rw [step, if_neg (by rw [c]; decide)])
    · rw [Bool.true_and]
      exact Ev.next IH (fun k => by rw [step, if_pos c])
theorem rVals_from : ∀ (d i : Nat), i + d = l.length → Ev (fun k => marqueeref03_SameRow.l0 k l m (i : Int)) (valsA l m d i)
  | 0, i, h => by
    refine Ev.stops (fun k => ?_)
    rw [marqueeref03_SameRow.l0, if_neg (by omega)]; rfl
  | d + 1, i, h => by
    have hl' := hl
    unfold maxLen at hl'
    have e1 := wrap_succ (show i < l.length by omega) (by omega)
    have IH := rVals_from d (i + 1) (by omega)
    have step : ∀ k, marqueeref03_SameRow.l0 (k + 1) l m (i : Int) = if valEq (rd_T38 l i) (rd_T38 m i) = true then marqueeref03_SameRow.l0 k l m ((i + 1 : Nat) : Int) else some false := fun k => by
      rw [marqueeref03_SameRow.l0, if_pos (by omega), if_pos (by omega), if_pos (by omega), e1]
      unfold valEq
      cases ((rd_T38 l i).f0 == (rd_T38 m i).f0) <;> cases ((rd_T38 l i).f1 == (rd_T38 m i).f1) <;> cases ((rd_T38 l i).f2.toList == (rd_T38 m i).f2.toList) <;> rfl
    unfold valsA
    cases c : valEq (rd_T38 l i) (rd_T38 m i)
    · rw [Bool.false_and]
      exact Ev.stops (fun k => by rw [step, if_neg (by rw [c]; decide)])
    · rw [Bool.true_and]
      exact Ev.next IH (fun k => by rw [step, if_pos c])
end
open Classical in
noncomputable def schV (s t : ByteArray) (l m : List S40) : Bool := if s.toList = t.toList then colsV l m else false
theorem sCols_ev (l m : List S40) (hl : l.length ≤ maxLen) : Ev (fun k => api_Column_28.f k l m) (colsV l m) := by
  unfold api_Column_28.f colsV
  by_cases h : l.length = m.length
  · rw [if_pos h]
    exact Ev.congr (fun k => by rw [if_pos (by omega)]; rfl) (sCols_from l m hl h l.length 0 (by omega))
  · rw [if_neg h]
    exact Ev.congr (fun k => by rw [if_neg (by omega)]) (Ev.now _)
theorem rCols_ev (l m : List S40) (hl : l.length ≤ maxLen) : Ev (fun k => marqueeref03_Columns.f k l m) (colsV l m) := by
  unfold marqueeref03_Columns.f colsV
  by_cases h : l.length = m.length
  · rw [if_pos h]
    exact Ev.congr (fun k => by rw [if_pos (by omega)]; rfl) (rCols_from l m hl h l.length 0 (by omega))
  · rw [if_neg h]
    exact Ev.congr (fun k => by rw [if_neg (by omega)]) (Ev.now _)
theorem sSame_ev (s t : ByteArray) (l m : List S40) (hl : l.length ≤ maxLen) : Ev (fun k => schema_Same.f k s l t m) (schV s t l m) := by
  unfold schema_Same.f schV
  by_cases h : s.toList = t.toList
  · rw [if_pos h]
    exact Ev.congr (fun k => by rw [if_pos h]) (Ev.bind (sCols_ev l m hl) (Ev.now _))
  · rw [if_neg h]
    exact Ev.congr (fun k => by rw [if_neg h]) (Ev.now _)
theorem rSame_ev (s t : ByteArray) (l m : List S40) (hl : l.length ≤ maxLen) : Ev (fun k => marqueeref03_Same.f k s l t m) (schV s t l m) := by
  unfold marqueeref03_Same.f schV
  by_cases h : s.toList = t.toList
  · rw [if_pos h]
    exact Ev.congr (fun k => by rw [if_pos h]) (Ev.bind (rCols_ev l m hl) (Ev.now _))
  · rw [if_neg h]
    exact Ev.congr (fun k => by rw [if_neg h]) (Ev.now _)
theorem schV_self (s : ByteArray) (l : List S40) : schV s s l l = true := by unfold schV; rw [if_pos rfl]; exact colsV_self l
theorem sRow_ev (l m : List S38) (hl : l.length ≤ maxLen) : Ev (fun k => schema_SameRow.f k l m) (rowV l m) := by
  refine Ev.congr (fun k => by unfold schema_SameRow.f; rfl) (Ev.bind (g := fun k => api_Value.f k l m) ?_ (Ev.now _))
  unfold api_Value.f rowV
  by_cases h : l.length = m.length
  · rw [if_pos h]
    exact Ev.congr (fun k => by rw [if_pos (by omega)]; rfl) (sVals_from l m hl h l.length 0 (by omega))
  · rw [if_neg h]
    exact Ev.congr (fun k => by rw [if_neg (by omega)]) (Ev.now _)
theorem rRow_ev (l m : List S38) (hl : l.length ≤ maxLen) : Ev (fun k => marqueeref03_SameRow.f k l m) (rowV l m) := by
  unfold marqueeref03_SameRow.f rowV
  by_cases h : l.length = m.length
  · rw [if_pos h]
    exact Ev.congr (fun k => by rw [if_pos (by omega)]; rfl) (rVals_from l m hl h l.length 0 (by omega))
  · rw [if_neg h]
    exact Ev.congr (fun k => by rw [if_neg (by omega)]) (Ev.now _)
end Go.Proofs.YtnfaoofddokjgaaDoor
