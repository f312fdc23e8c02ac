import Derived.Test.YtnfaoofddokjgaaDoorPx0
import Derived.Test.YtnfaoofddokjgaaDoorPx6
import Derived.Test.YtnfaoofddokjgaaDoorPx7
import Derived.Test.YtnfaoofddokjgaaDoorPx9
import Derived.Test.YtnfaoofddokjgaaDoorPx10
import Derived.Test.YtnfaoofddokjgaaDoorPlRunes2
import Derived.Test.YtnfaoofddokjgaaDoorOpenS
namespace Go.Proofs.YtnfaoofddokjgaaDoor
open Go.RowKit Print Go.Proofs.YtnfaoofddokjgaaDoorW.PrintWords
set_option maxRecDepth 100000 in
theorem awake_40 : marqueelaw03_awake.f 40 = some true := by kernel_rfl
theorem awake_ev : Ev (fun k => marqueelaw03_awake.f k) true := Ev.of (marqueelaw03_awake.mono) awake_40
theorem may_ev (a n : Int) (s : ByteArray) (hs : s.size ≤ 9223372036854775807) : Ev (fun k => marqueeref01_May.f k a n s) (okV a n s) := by
  have hR := runes_ev s hs
  have he : (s.toList == ([] : List UInt8)) = s.toList.isEmpty := by cases s.toList <;> rfl
  have h0 : ∀ (b : Bool) k, b = true → marqueeref01_May.j0 (k + 1) a b a n s = some (s.toList.isEmpty) := fun b k hb => by
    rw [marqueeref01_May.j0, if_pos hb, he]
  by_cases a0 : a = 0
  · subst a0
    refine Ev.congr (f := fun _ => some (okV 0 n s)) (fun k => ?_) (Ev.now _)
    unfold marqueeref01_May.f okV
    rw [if_pos rfl, if_pos rfl, he]
    by_cases hn : n = 0 <;> simp [hn]
  · by_cases a1 : a = 1
    · subst a1
      refine Ev.congr (f := fun _ => some (okV 1 n s)) (fun k => ?_) (Ev.now _)
      unfold marqueeref01_May.f okV
      have h10 : ¬ (1 : Int) = 0 := by decide
      have h11 : (1 : Int) = 1 := rfl
      rw [if_neg h10, if_pos h11, if_neg h10, if_pos h11]
      by_cases hl : s.toList = []
      · rw [if_pos hl]
        by_cases hn : n = 0
        · simp [hn, hl]
        · simp [hn, hl]; rfl
      · rw [if_neg hl]
        have : s.toList.isEmpty = false := by simpa using hl
        rw [this]; rfl
    · by_cases a2 : a = 2
      · subst a2
        refine Ev.stops (fun k => ?_)
        unfold marqueeref01_May.f okV
        rw [if_neg (by decide), if_neg (by decide), if_pos rfl, if_neg (by decide), if_neg (by decide), if_pos rfl]
        exact h0 _ k rfl
      · by_cases a3 : a = 3
        · subst a3
          refine Ev.stops (fun k => ?_)
          unfold marqueeref01_May.f okV
          rw [if_neg (by decide), if_neg (by decide), if_neg (by decide), if_neg (by decide), if_neg (by decide), if_neg (by decide), if_pos rfl]
          exact h0 _ k rfl
        · have hf : ∀ k, marqueeref01_May.f k a n s = marqueeref01_May.j0 k a false a n s := fun k => by
            unfold marqueeref01_May.f
            rw [if_neg a0, if_neg a1, if_neg a2, show (a == 3) = false by simpa using a3]
          refine Ev.congr hf ?_
          by_cases a4 : a = 4
          · subst a4
            have e : okV 4 n s = (decide (n = 0) && decide (s.size ≤ 1024) && Lib.validD s.data.toList) := by
              unfold okV
              rw [if_neg (by decide), if_neg (by decide), if_neg (by decide), if_neg (by decide), if_pos rfl]
            rw [e]
            by_cases hn : n = 0
            · by_cases hz : s.size ≤ 1024
              · refine Ev.step (f := fun k => (marqueeref01_Runes.f k s).bind fun t => some t) (fun k => ?_) ?_
                · rw [marqueeref01_May.j0, if_neg (by decide), if_pos rfl, if_pos hn, if_pos (by omega)]
                · have : (decide (n = 0) && decide (s.size ≤ 1024) && Lib.validD s.data.toList) = Lib.validD s.data.toList := by simp [hn, hz]
                  rw [this]
                  exact Ev.bind hR (Ev.now _)
              · refine Ev.stops (fun k => ?_)
                rw [marqueeref01_May.j0, if_neg (by decide), if_pos rfl, if_pos hn, if_neg (by omega)]
                simp [hz]
            · refine Ev.stops (fun k => ?_)
              rw [marqueeref01_May.j0, if_neg (by decide), if_pos rfl, if_neg hn]
              simp [hn]
          · refine Ev.stops (fun k => ?_)
            rw [marqueeref01_May.j0, if_neg (by decide), if_neg a4]
            unfold okV
            rw [if_neg a0, if_neg a1, if_neg a2, if_neg a3, if_neg a4]
open Classical in
/-- The error of a row, from place i on. -/
noncomputable def fitsFrom (l : List S40) (r : List S38) (i : Nat) : Int :=
  if ∀ j, i ≤ j → j < r.length → okV (rd_T38 r j).f0 (rd_T38 r j).f1 (rd_T38 r j).f2 = true ∧ ((rd_T38 r j).f0 = 0 ∨ (rd_T38 r j).f0 = (rd_T40 l j).f1) then 0 else 31
theorem fitsFrom_end {l : List S40} {r : List S38} {i : Nat} (h : r.length ≤ i) : fitsFrom l r i = 0 := by
  unfold fitsFrom
  rw [if_pos (fun j h1 h2 => by omega)]
theorem fitsFrom_step {l : List S40} {r : List S38} {i : Nat} (h : i < r.length) :
    fitsFrom l r i = if okV (rd_T38 r i).f0 (rd_T38 r i).f1 (rd_T38 r i).f2 = true ∧ ((rd_T38 r i).f0 = 0 ∨ (rd_T38 r i).f0 = (rd_T40 l i).f1) then fitsFrom l r (i + 1) else 31 := by
  unfold fitsFrom
  by_cases c : okV (rd_T38 r i).f0 (rd_T38 r i).f1 (rd_T38 r i).f2 = true ∧ ((rd_T38 r i).f0 = 0 ∨ (rd_T38 r i).f0 = (rd_T40 l i).f1)
  · rw [if_pos c]
    by_cases d : ∀ j, i + 1 ≤ j → j < r.length → okV (rd_T38 r j).f0 (rd_T38 r j).f1 (rd_T38 r j).f2 = true ∧ ((rd_T38 r j).f0 = 0 ∨ (rd_T38 r j).f0 = (rd_T40 l j).f1)
    · rw [if_pos d, if_pos (fun j h1 h2 => by
        by_cases e : j = i
        · subst e; exact c
        · exact d j (by omega) h2)]
    · rw [if_neg d, if_neg (fun h' => d (fun j h1 h2 => h' j (by omega) h2))]
  · rw [if_neg c, if_neg (fun h' => c (h' i (Nat.le_refl _) h))]
theorem rd38_mem {r : List S38} {i : Nat} (h : i < r.length) : rd_T38 r i ∈ r := by
  unfold rd_T38
  rw [List.getD_eq_getElem?_getD, List.getElem?_eq_getElem (by simpa using h)]
  exact List.getElem_mem _
section
variable (l : List S40) (r : List S38) (hl : r.length = l.length) (hr : r.length ≤ maxLen ∧ ∀ x ∈ r, good38 x)
theorem wrap_succ {i n : Nat} (h : i < n) (hn : n ≤ 9223372036854775807) : wrap64 ((i : Int) + 1) = ((i + 1 : Nat) : Int) := by rw [w64 (by omega) (by omega)]; omega
include hl hr
theorem sFits_from (s : ByteArray) : ∀ (d i : Nat), r.length - i ≤ d → i ≤ r.length → Ev (fun k => schema_Fits.l0 k r (r.length : Int) (i : Int) s l) (fitsFrom l r i)
  | 0, i, hd, hi => by
    rw [fitsFrom_end (by omega)]
    refine Ev.stops (fun k => ?_)
    rw [schema_Fits.l0, if_neg (by omega)]
  | d + 1, i, hd, hi => by
    by_cases hlt : i < r.length
    · have hm := hr.1
      unfold maxLen at hm
      have e1 := wrap_succ hlt (by omega)
      have IH := sFits_from s d (i + 1) (by omega) (by omega)
      rw [fitsFrom_step hlt]
      by_cases c : okV (rd_T38 r i).f0 (rd_T38 r i).f1 (rd_T38 r i).f2 = true
      · by_cases c0 : (rd_T38 r i).f0 = 0
        · rw [if_pos ⟨c, .inl c0⟩]
          refine Ev.next IH (fun k => ?_)
          rw [schema_Fits.l0, if_pos (by omega), if_pos (by omega), if_pos (by omega), value_Check.f, if_pos c, Option.bind_some, if_pos rfl, if_pos c0, e1]
        · by_cases c1 : (rd_T38 r i).f0 = (rd_T40 l i).f1
          · rw [if_pos ⟨c, .inr c1⟩]
            refine Ev.next IH (fun k => ?_)
            rw [schema_Fits.l0, if_pos (by omega), if_pos (by omega), if_pos (by omega), value_Check.f, if_pos c, Option.bind_some, if_pos rfl, if_neg c0, if_pos (by omega), if_pos c1, e1]
          · rw [if_neg (fun h => h.2.elim c0 c1)]
            refine Ev.stops (fun k => ?_)
            rw [schema_Fits.l0, if_pos (by omega), if_pos (by omega), if_pos (by omega), value_Check.f, if_pos c, Option.bind_some, if_pos rfl, if_neg c0, if_pos (by omega), if_neg c1]
      · rw [if_neg (fun h => c h.1)]
        refine Ev.stops (fun k => ?_)
        rw [schema_Fits.l0, if_pos (by omega), if_pos (by omega), if_pos (by omega), value_Check.f, if_neg c, Option.bind_some, if_neg (by decide)]
    · rw [fitsFrom_end (by omega)]
      refine Ev.stops (fun k => ?_)
      rw [schema_Fits.l0, if_neg (by omega)]
theorem rFits_from (s : ByteArray) : ∀ (d i : Nat), r.length - i ≤ d → i ≤ r.length → Ev (fun k => marqueeref03_Fits.l0 k r (i : Int) s l) (fitsFrom l r i)
  | 0, i, hd, hi => by
    rw [fitsFrom_end (by omega)]
    refine Ev.stops (fun k => ?_)
    rw [marqueeref03_Fits.l0, if_neg (by omega)]
  | d + 1, i, hd, hi => by
    by_cases hlt : i < r.length
    · have hm := hr.1
      unfold maxLen at hm
      have e1 := wrap_succ hlt (by omega)
      have IH := rFits_from s d (i + 1) (by omega) (by omega)
      have hg := hr.2 _ (rd38_mem hlt)
      have hM := may_ev (rd_T38 r i).f0 (rd_T38 r i).f1 (rd_T38 r i).f2 hg.2.2
      rw [fitsFrom_step hlt]
      have step : ∀ k, marqueeref03_Fits.l0 (k + 1) r (i : Int) s l = (marqueeref01_May.f k (rd_T38 r i).f0 (rd_T38 r i).f1 (rd_T38 r i).f2).bind fun t => if t = true then (if (rd_T38 r i).f0 = 0 then marqueeref03_Fits.l0 k r ((i + 1 : Nat) : Int) s l else if (i : Int) < (l.length : Int) then (if (rd_T38 r i).f0 = (rd_T40 l i).f1 then marqueeref03_Fits.l0 k r ((i + 1 : Nat) : Int) s l else some 31) else none) else some 31 := fun k => by
        rw [marqueeref03_Fits.l0, if_pos (by omega), if_pos (by omega), e1]
      refine Ev.step step (Ev.bind hM ?_)
      by_cases c : okV (rd_T38 r i).f0 (rd_T38 r i).f1 (rd_T38 r i).f2 = true
      · by_cases c0 : (rd_T38 r i).f0 = 0
        · rw [if_pos ⟨c, .inl c0⟩]
          exact Ev.congr (fun k => by rw [if_pos c, if_pos c0]) IH
        · by_cases c1 : (rd_T38 r i).f0 = (rd_T40 l i).f1
          · rw [if_pos ⟨c, .inr c1⟩]
            exact Ev.congr (fun k => by rw [if_pos c, if_neg c0, if_pos (by omega), if_pos c1]) IH
          · rw [if_neg (fun h => h.2.elim c0 c1)]
            exact Ev.congr (fun k => by rw [if_pos c, if_neg c0, if_pos (by omega), if_neg c1]) (Ev.now _)
      · rw [if_neg (fun h => c h.1)]
        exact Ev.congr (fun k => by rw [if_neg c]) (Ev.now _)
    · rw [fitsFrom_end (by omega)]
      refine Ev.stops (fun k => ?_)
      rw [marqueeref03_Fits.l0, if_neg (by omega)]
end
/-- The error of a row. -/
noncomputable def fitsV (l : List S40) (r : List S38) : Int := if r.length = l.length then fitsFrom l r 0 else 31
theorem sFits_ev (s : ByteArray) (l : List S40) (r : List S38) (hr : r.length ≤ maxLen ∧ ∀ x ∈ r, good38 x) : Ev (fun k => schema_Fits.f k s l r) (fitsV l r) := by
  unfold schema_Fits.f fitsV
  by_cases h : r.length = l.length
  · rw [if_pos h]
    exact Ev.congr (fun k => by rw [if_pos (by omega)]; rfl) (sFits_from l r h hr s r.length 0 (by omega) (by omega))
  · rw [if_neg h]
    exact Ev.congr (fun k => by rw [if_neg (by omega)]) (Ev.now _)
theorem rFits_ev (s : ByteArray) (l : List S40) (r : List S38) (hr : r.length ≤ maxLen ∧ ∀ x ∈ r, good38 x) : Ev (fun k => marqueeref03_Fits.f k s l r) (fitsV l r) := by
  unfold marqueeref03_Fits.f fitsV
  by_cases h : r.length = l.length
  · rw [if_pos h]
    exact Ev.congr (fun k => by rw [if_pos (by omega)]; rfl) (rFits_from l r h hr s r.length 0 (by omega) (by omega))
  · rw [if_neg h]
    exact Ev.congr (fun k => by rw [if_neg (by omega)]) (Ev.now _)
end Go.Proofs.YtnfaoofddokjgaaDoor
