import Derived.Test.YtnfaoofddokjgaaDoorPx8
import Derived.Test.YtnfaoofddokjgaaDoorPlFits
namespace Go.Proofs.YtnfaoofddokjgaaDoor
open Go.RowKit Print Go.Proofs.YtnfaoofddokjgaaDoorW.PrintWords
/-! ### the place of a name -/
def plA (l : List S40) (nm : ByteArray) : Nat → Nat → Int × Bool
  | 0, _ => (0, false)
  | d + 1, i => if (rd_T40 l i).f0.toList = nm.toList then ((i : Int), true) else plA l nm d (i + 1)
theorem sPlace_from (l : List S40) (nm : ByteArray) (hl : l.length ≤ maxLen) : ∀ (d i : Nat), i + d = l.length → Ev (fun k => schema_Place.l0 k nm l (l.length : Int) (i : Int)) (plA l nm d i)
  | 0, i, h => by
    refine Ev.stops (fun k => ?_)
    rw [schema_Place.l0, if_neg (by omega)]; rfl
  | d + 1, i, h => by
    unfold maxLen at hl
    have e1 := wrap_succ (show i < l.length by omega) (by omega)
    unfold plA
    by_cases c : (rd_T40 l i).f0.toList = nm.toList
    · rw [if_pos c]
      refine Ev.stops (fun k => ?_)
      rw [schema_Place.l0, if_pos (by omega), if_pos (by omega), if_pos (by omega), if_pos (by simpa using c)]
    · rw [if_neg c]
      refine Ev.next (sPlace_from l nm (by unfold maxLen; omega) d (i + 1) (by omega)) (fun k => ?_)
      rw [schema_Place.l0, if_pos (by omega), if_pos (by omega), if_pos (by omega), if_neg (by simpa using c), e1]
theorem rPlace_from (s : ByteArray) (l : List S40) (nm : ByteArray) (hl : l.length ≤ maxLen) : ∀ (d i : Nat), i + d = l.length → Ev (fun k => marqueeref03_Place.l0 k nm (i : Int) s l) (plA l nm d i)
  | 0, i, h => by
    refine Ev.stops (fun k => ?_)
    rw [marqueeref03_Place.l0, if_neg (by omega)]; rfl
  | d + 1, i, h => by
    unfold maxLen at hl
    have e1 := wrap_succ (show i < l.length by omega) (by omega)
    unfold plA
    by_cases c : (rd_T40 l i).f0.toList = nm.toList
    · rw [if_pos c]
      refine Ev.stops (fun k => ?_)
      rw [marqueeref03_Place.l0, if_pos (by omega), if_pos (by omega), if_pos c]
    · rw [if_neg c]
      refine Ev.next (rPlace_from s l nm (by unfold maxLen; omega) d (i + 1) (by omega)) (fun k => ?_)
      rw [marqueeref03_Place.l0, if_pos (by omega), if_pos (by omega), if_neg c, e1]
theorem sPlace_ev (s : ByteArray) (l : List S40) (nm : ByteArray) (hl : l.length ≤ maxLen) : Ev (fun k => schema_Place.f k s l nm) (plA l nm l.length 0) := sPlace_from l nm hl l.length 0 (by omega)
theorem rPlace_ev (s : ByteArray) (l : List S40) (nm : ByteArray) (hl : l.length ≤ maxLen) : Ev (fun k => marqueeref03_Place.f k s l nm) (plA l nm l.length 0) := rPlace_from s l nm hl l.length 0 (by omega)
theorem plA_first (l : List S40) (nm : ByteArray) : ∀ (d i j : Nat), i ≤ j → j < i + d → (rd_T40 l j).f0.toList = nm.toList →
    ∃ q, i ≤ q ∧ q ≤ j ∧ (rd_T40 l q).f0.toList = nm.toList ∧ (∀ p, i ≤ p → p < q → ¬ (rd_T40 l p).f0.toList = nm.toList) ∧ plA l nm d i = ((q : Int), true)
  | 0, i, j, h1, h2, _ => by omega
  | d + 1, i, j, h1, h2, hm => by
    unfold plA
    by_cases c : (rd_T40 l i).f0.toList = nm.toList
    · exact ⟨i, Nat.le_refl _, h1, c, fun p a b => by omega, by rw [if_pos c]⟩
    · have hne : j ≠ i := fun e => c (e ▸ hm)
      obtain ⟨q, a, b, hq, hf, e⟩ := plA_first l nm d (i + 1) j (by omega) (by omega) hm
      refine ⟨q, by omega, b, hq, fun p h3 h4 => ?_, by rw [if_neg c]; exact e⟩
      by_cases hp : p = i
      · subst hp; exact c
      · exact hf p (by omega) h4
theorem plA_self (l : List S40) (i : Nat) (hi : i < l.length) : (plA l (rd_T40 l i).f0 l.length 0).1 = (i : Int) ↔ ∀ p, p < i → ¬ (rd_T40 l p).f0.toList = (rd_T40 l i).f0.toList := by
  obtain ⟨q, _, b, hq, hf, e⟩ := plA_first l (rd_T40 l i).f0 l.length 0 i (by omega) (by omega) rfl
  rw [e]
  constructor
  · intro h p hp
    have h' : (q : Int) = (i : Int) := h
    exact hf p (by omega) (by omega)
  · intro h
    show (q : Int) = (i : Int)
    by_cases hqi : q = i
    · rw [hqi]
    · exact absurd hq (h q (by omega))
/-! ### names -/
def nmA (s : ByteArray) : Nat → Nat → Bool
  | 0, _ => true
  | d + 1, i => goodC 1 (bt s (i : Int)) && nmA s d (i + 1)
theorem rName_from (s : ByteArray) (hs : s.size ≤ maxLen) : ∀ (d i : Nat), i + d = s.size → Ev (fun k => marqueeref03_Name.l0 k s (i : Int)) (nmA s d i)
  | 0, i, h => by
    refine Ev.stops (fun k => ?_)
    rw [marqueeref03_Name.l0, if_neg (by omega)]; rfl
  | d + 1, i, h => by
    unfold maxLen at hs
    have e1 := Aside0.mk (wrap_succ (show i < s.size by omega) (by omega))
    have IH := rName_from s (by unfold maxLen; omega) d (i + 1) (by omega)
    unfold nmA
    obtain ⟨c, hc⟩ : ∃ c, bt s (i : Int) = c := ⟨_, rfl⟩
    have step : ∀ k, marqueeref03_Name.l0 (k + 1) s (i : Int) = if goodC 1 c = true then marqueeref03_Name.l0 k s ((i + 1 : Nat) : Int) else some false := fun k => by
      rw [marqueeref03_Name.l0, if_pos (by omega), if_pos (by omega), hc, e1.out]
      have hg : goodC 1 c = true ↔ (c = 95 ∨ (97 ≤ c ∧ c ≤ 122) ∨ (65 ≤ c ∧ c ≤ 90) ∨ (48 ≤ c ∧ c ≤ 57)) := by simp [goodC]; omega
      by_cases g : (c = 95 ∨ (97 ≤ c ∧ c ≤ 122) ∨ (65 ≤ c ∧ c ≤ 90) ∨ (48 ≤ c ∧ c ≤ 57))
      · rw [if_pos (hg.2 g)]
        repeat' split
        all_goals first | rfl | (exfalso; omega)
      · rw [if_neg (fun h => g (hg.1 h))]
        repeat' split
        all_goals first | rfl | (exfalso; omega)
    rw [hc]
    cases g : goodC 1 c with
    | true =>
      rw [Bool.true_and]
      exact Ev.next IH (fun k => by rw [step, if_pos g])
    | false =>
      rw [Bool.false_and]
      exact Ev.stops (fun k => by rw [step, if_neg (by rw [g]; decide)])
theorem nmA_all (s : ByteArray) : ∀ (d i : Nat), nmA s d i = true ↔ ∀ j, i ≤ j → j < i + d → goodC 1 (bt s (j : Int)) = true
  | 0, i => by simp [nmA]; omega
  | d + 1, i => by
    unfold nmA
    rw [Bool.and_eq_true, nmA_all s d (i + 1)]
    constructor
    · rintro ⟨h1, h2⟩ j h3 h4
      by_cases e : j = i
      · subst e; exact h1
      · exact h2 j (by omega) (by omega)
    · intro h
      exact ⟨h i (Nat.le_refl _) (by omega), fun j h1 h2 => h j (by omega) (by omega)⟩
theorem nameB_iff (s : ByteArray) : nameB s = true ↔ (∀ i, i < s.size → goodC i (bt s (i : Int)) = true) ∧ 1 ≤ s.size ∧ s.size ≤ 64 := by
  unfold nameB
  rw [Bool.and_eq_true, Bool.and_eq_true, List.all_eq_true, decide_eq_true_iff, decide_eq_true_iff]
  simp only [List.mem_range]
theorem rName_ev (s : ByteArray) (hs : s.size ≤ maxLen) : Ev (fun k => marqueeref03_Name.f k s) (nameB s) := by
  have stop : ∀ k, marqueeref03_Name.j0 (k + 1) s true = some false := fun k => by rw [marqueeref03_Name.j0, if_pos rfl]
  have go : ∀ k, marqueeref03_Name.j0 (k + 1) s false = marqueeref03_Name.l0 k s 0 := fun k => by rw [marqueeref03_Name.j0, if_neg (by decide)]
  have no : ∀ b, ¬ (∀ i, i < s.size → goodC i (bt s (i : Int)) = true) ∨ ¬ 1 ≤ s.size ∨ ¬ s.size ≤ 64 → b = nameB s → b = false := by
    intro b h e
    rw [e]
    cases hn : nameB s with
    | false => rfl
    | true =>
      have := (nameB_iff s).1 hn
      rcases h with h | h | h
      · exact absurd this.1 h
      · exact absurd this.2.1 h
      · exact absurd this.2.2 h
  by_cases h1 : (s.size : Int) < 1
  · rw [no _ (.inr (.inl (by omega))) rfl]
    exact Ev.stops (fun k => by unfold marqueeref03_Name.f; rw [if_pos h1]; exact stop k)
  · by_cases h2 : (s.size : Int) > 64
    · rw [no _ (.inr (.inr (by omega))) rfl]
      exact Ev.stops (fun k => by unfold marqueeref03_Name.f; rw [if_neg h1, if_pos h2]; exact stop k)
    · have hf : ∀ k, marqueeref03_Name.f k s = if (bt s 0) ≥ 48 then (marqueeref03_Name.j0 k s (decide ((bt s 0) ≤ 57))) else (marqueeref03_Name.j0 k s false) := fun k => by
        unfold marqueeref03_Name.f; rw [if_neg h1, if_neg h2, if_pos (by omega)]
      by_cases hd : 48 ≤ bt s 0 ∧ bt s 0 ≤ 57
      · rw [no _ (.inl (fun h => by
          have := h 0 (by omega)
          simp [goodC] at this
          omega)) rfl]
        exact Ev.stops (fun k => by rw [hf, if_pos hd.1, decide_eq_true hd.2]; exact stop k)
      · have hj : ∀ k, marqueeref03_Name.f k s = marqueeref03_Name.j0 k s false := fun k => by
          rw [hf]
          split
          · rw [decide_eq_false (by omega)]
          · rfl
        have e : nameB s = nmA s s.size 0 := by
          rw [Bool.eq_iff_iff, nameB_iff, nmA_all]
          constructor
          · rintro ⟨h, _, _⟩ j _ hj2
            have := h j (by omega)
            simp [goodC] at this ⊢
            omega
          · intro h
            refine ⟨fun j hj2 => ?_, by omega, by omega⟩
            have := h j (by omega) (by omega)
            simp [goodC] at this ⊢
            by_cases e0 : j = 0
            · subst e0
              have hd' : ¬ (48 ≤ bt s ((0 : Nat) : Int) ∧ bt s ((0 : Nat) : Int) ≤ 57) := hd
              omega
            · omega
        rw [e]
        exact Ev.congr hj (Ev.next (rName_from s hs s.size 0 (by omega)) go)
theorem sName (s : ByteArray) (hs : s.size ≤ maxLen) : schema_Name.f s = some (nameB s) := by unfold schema_Name.f; rw [if_pos (by unfold maxLen at hs; omega)]
/-! ### schemas -/
def gcol (l : List S40) (i : Nat) : Prop := nameB (rd_T40 l i).f0 = true ∧ 1 ≤ (rd_T40 l i).f1 ∧ (rd_T40 l i).f1 ≤ 4 ∧ ∀ p, p < i → ¬ (rd_T40 l p).f0.toList = (rd_T40 l i).f0.toList
open Classical in
noncomputable def chk (b : Prop) : Int := if b then 0 else 30
theorem chk_true {b : Prop} (h : b) : chk b = 0 := by unfold chk; rw [if_pos h]
theorem chk_false {b : Prop} (h : ¬ b) : chk b = 30 := by unfold chk; rw [if_neg h]
theorem chk_congr {a b : Prop} (h : a ↔ b) : chk a = chk b := by
  by_cases hb : b
  · rw [chk_true hb, chk_true (h.2 hb)]
  · rw [chk_false hb, chk_false (fun ha => hb (h.1 ha))]
def colsFrom (l : List S40) (i : Nat) : Prop := ∀ j, i ≤ j → j < l.length → gcol l j
theorem colsFrom_step {l : List S40} {i : Nat} (hi : i < l.length) : colsFrom l i ↔ gcol l i ∧ colsFrom l (i + 1) := by
  constructor
  · intro h
    exact ⟨h i (Nat.le_refl _) hi, fun j h1 h2 => h j (by omega) h2⟩
  · rintro ⟨h1, h2⟩ j h3 h4
    by_cases e : j = i
    · subst e; exact h1
    · exact h2 j (by omega) h4
theorem colsFrom_end {l : List S40} {i : Nat} (hi : l.length ≤ i) : colsFrom l i := fun j h1 h2 => by omega
theorem rd40_mem {r : List S40} {i : Nat} (h : i < r.length) : rd_T40 r i ∈ r := by
  unfold rd_T40
  rw [List.getD_eq_getElem?_getD, List.getElem?_eq_getElem (by simpa using h)]
  exact List.getElem_mem _
section
variable (s : ByteArray) (l : List S40) (hl : l.length ≤ maxLen ∧ ∀ x ∈ l, good40 x)
include hl
theorem sCheck_from : ∀ (d i : Nat) (ok : Bool), i + d = l.length → Ev (fun k => schema_Check.l0 k ok l (l.length : Int) (i : Int) s l) (chk (ok = true ∧ colsFrom l i))
  | 0, i, ok, h => by
    refine Ev.stops (fun k => ?_)
    rw [schema_Check.l0, if_neg (by omega)]
    cases ok with
    | true => rw [if_pos rfl, chk_true ⟨rfl, colsFrom_end (by omega)⟩]
    | false => rw [if_neg (by decide), chk_false (fun h => by cases h.1)]
  | d + 1, i, ok, h => by
    have hm := hl.1
    unfold maxLen at hm
    have e1 := wrap_succ (show i < l.length by omega) (by omega)
    have hg := hl.2 _ (rd40_mem (show i < l.length by omega))
    have IH := fun ok => sCheck_from d (i + 1) ok (by omega)
    have hn := sName _ hg.1
    have hP := sPlace_ev s l (rd_T40 l i).f0 hl.1
    have hself := plA_self l i (by omega)
    have step : ∀ k, schema_Check.l0 (k + 1) ok l (l.length : Int) (i : Int) s l = (schema_Place.f k s l (rd_T40 l i).f0).bind fun b =>
        schema_Check.l0 k (ok && nameB (rd_T40 l i).f0 && decide (b.1 = (i : Int)) && (decide ((rd_T40 l i).f1 ≥ 1) && decide ((rd_T40 l i).f1 ≤ 4))) l (l.length : Int) ((i + 1 : Nat) : Int) s l := fun k => by
      rw [schema_Check.l0, if_pos (by omega), if_pos (by omega), if_pos (by omega)]
      congr 1
      funext b
      rw [hn, e1]
      cases ok
      · rw [if_neg (by decide)]; rfl
      · rw [if_pos rfl, Option.bind_some]
        cases nameB (rd_T40 l i).f0
        · rw [if_neg (by decide)]; rfl
        · rw [if_pos rfl]
          by_cases hb : b.1 = (i : Int)
          · rw [if_pos hb, decide_eq_true hb]
            by_cases h1 : (rd_T40 l i).f1 ≥ 1
            · rw [if_pos h1, decide_eq_true h1]; rfl
            · rw [if_neg h1, decide_eq_false h1]; rfl
          · rw [if_neg hb, decide_eq_false hb]; rfl
    refine Ev.step step (Ev.bind hP ?_)
    have e : chk (ok = true ∧ colsFrom l i) = chk ((ok && nameB (rd_T40 l i).f0 && decide ((plA l (rd_T40 l i).f0 l.length 0).1 = (i : Int)) && (decide ((rd_T40 l i).f1 ≥ 1) && decide ((rd_T40 l i).f1 ≤ 4))) = true ∧ colsFrom l (i + 1)) := by
      refine chk_congr ?_
      rw [colsFrom_step (by omega)]
      unfold gcol
      simp only [Bool.and_eq_true, decide_eq_true_eq]
      rw [hself]
      constructor
      · rintro ⟨h1, ⟨h2, h3, h4, h5⟩, h6⟩
        exact ⟨⟨⟨⟨h1, h2⟩, h5⟩, h3, h4⟩, h6⟩
      · rintro ⟨⟨⟨⟨h1, h2⟩, h5⟩, h3, h4⟩, h6⟩
        exact ⟨h1, ⟨h2, h3, h4, h5⟩, h6⟩
    rw [e]
    exact IH _
theorem rCheck_inner (i : Nat) (hi : i < l.length) (nm : ByteArray) (kd : Int) (r : Int) (hrest : (∀ p, p < i → ¬ (rd_T40 l p).f0.toList = nm.toList) → Ev (fun k => marqueeref03_Check.l0 k ((i + 1 : Nat) : Int) s l) r)
    (hbad : ¬ (∀ p, p < i → ¬ (rd_T40 l p).f0.toList = nm.toList) → r = 30) : ∀ (d j : Nat), j + d = i → (∀ p, p < j → ¬ (rd_T40 l p).f0.toList = nm.toList) → Ev (fun k => marqueeref03_Check.l1 k (i : Int) (j : Int) s l nm kd) r
  | 0, j, h, hp => by
    have hm := hl.1
    unfold maxLen at hm
    have e1 := wrap_succ hi (by omega)
    refine Ev.next (hrest (fun p hp' => hp p (by omega))) (fun k => ?_)
    rw [marqueeref03_Check.l1, if_neg (by omega), e1]
  | d + 1, j, h, hp => by
    have hm := hl.1
    unfold maxLen at hm
    have e1 := wrap_succ (show j < l.length by omega) (by omega)
    by_cases c : (rd_T40 l j).f0.toList = nm.toList
    · rw [hbad (fun h' => h' j (by omega) c)]
      refine Ev.stops (fun k => ?_)
      rw [marqueeref03_Check.l1, if_pos (by omega), if_pos (by omega), if_pos (by omega), if_pos c]
    · refine Ev.next (rCheck_inner i hi nm kd r hrest hbad d (j + 1) (by omega) (fun p hp' => ?_)) (fun k => ?_)
      · by_cases e : p = j
        · subst e; exact c
        · exact hp p (by omega)
      · rw [marqueeref03_Check.l1, if_pos (by omega), if_pos (by omega), if_pos (by omega), if_neg c, e1]
theorem rCheck_from : ∀ (d i : Nat), i + d = l.length → Ev (fun k => marqueeref03_Check.l0 k (i : Int) s l) (chk (colsFrom l i))
  | 0, i, h => by
    rw [chk_true (colsFrom_end (by omega))]
    refine Ev.stops (fun k => ?_)
    rw [marqueeref03_Check.l0, if_neg (by omega)]
  | d + 1, i, h => by
    have hg := hl.2 _ (rd40_mem (show i < l.length by omega))
    have IH := rCheck_from d (i + 1) (by omega)
    have hN := rName_ev (rd_T40 l i).f0 hg.1
    have step : ∀ k, marqueeref03_Check.l0 (k + 1) (i : Int) s l = (marqueeref03_Name.f k (rd_T40 l i).f0).bind fun t =>
        marqueeref03_Check.j2 k (i : Int) (!(t && (decide (1 ≤ (rd_T40 l i).f1) && decide ((rd_T40 l i).f1 ≤ 4)))) s l (rd_T40 l i).f0 (rd_T40 l i).f1 := fun k => by
      rw [marqueeref03_Check.l0, if_pos (by omega), if_pos (by omega)]
      congr 1
      funext t
      cases t
      · rw [if_neg (by decide)]; rfl
      · rw [if_pos rfl]
        by_cases h1 : (rd_T40 l i).f1 < 1
        · rw [if_pos h1, decide_eq_false (show ¬ 1 ≤ (rd_T40 l i).f1 by omega)]; rfl
        · rw [if_neg h1, decide_eq_true (show 1 ≤ (rd_T40 l i).f1 by omega)]
          by_cases h2 : (rd_T40 l i).f1 > 4
          · rw [decide_eq_true h2, decide_eq_false (show ¬ (rd_T40 l i).f1 ≤ 4 by omega)]; rfl
          · rw [decide_eq_false h2, decide_eq_true (show (rd_T40 l i).f1 ≤ 4 by omega)]; rfl
    refine Ev.step step (Ev.bind hN ?_)
    by_cases c : nameB (rd_T40 l i).f0 = true ∧ 1 ≤ (rd_T40 l i).f1 ∧ (rd_T40 l i).f1 ≤ 4
    · rw [c.1, decide_eq_true c.2.1, decide_eq_true c.2.2]
      refine Ev.next (rCheck_inner s l hl i (by omega) (rd_T40 l i).f0 (rd_T40 l i).f1 _ (fun hp => ?_) (fun hp => ?_) i 0 (by omega) (fun p hp => by omega)) (fun k => by rw [marqueeref03_Check.j2, if_neg (by decide)]; rfl)
      · rw [chk_congr (b := colsFrom l (i + 1)) ?_]
        · exact IH
        · rw [colsFrom_step (by omega)]
          exact ⟨fun h => h.2, fun h => ⟨⟨c.1, c.2.1, c.2.2, hp⟩, h⟩⟩
      · exact chk_false (fun h => hp (h i (Nat.le_refl _) (by omega)).2.2.2)
    · have e : (!(nameB (rd_T40 l i).f0 && (decide (1 ≤ (rd_T40 l i).f1) && decide ((rd_T40 l i).f1 ≤ 4)))) = true := by
        rw [Bool.not_eq_true', Bool.eq_false_iff]
        intro h
        simp only [Bool.and_eq_true, decide_eq_true_eq] at h
        exact c h
      rw [e, chk_false (fun h => by
        have := h i (Nat.le_refl _) (by omega)
        exact c ⟨this.1, this.2.1, this.2.2.1⟩)]
      exact Ev.stops (fun k => by rw [marqueeref03_Check.j2, if_pos rfl])
/-- What both say of a schema. -/
noncomputable def checkV (s : ByteArray) (l : List S40) : Int := chk ((nameB s && (decide (1 ≤ l.length) && decide (l.length ≤ 32))) = true ∧ colsFrom l 0)
theorem sCheck_ev (hs : s.size ≤ maxLen) : Ev (fun k => schema_Check.f k s l) (checkV s l) := by
  have step : ∀ k, schema_Check.f (k + 1) s l = schema_Check.l0 k (nameB s && (decide (1 ≤ l.length) && decide (l.length ≤ 32))) l (l.length : Int) ((0 : Nat) : Int) s l := fun k => by
    unfold schema_Check.f
    rw [sName s hs, Option.bind_some]
    cases nameB s
    · rw [if_neg (by decide), schema_Check.j0]; rfl
    · rw [if_pos rfl]
      by_cases h1 : 1 ≤ l.length
      · rw [if_pos (by omega), decide_eq_true h1, schema_Check.j0]
        by_cases h2 : l.length ≤ 32
        · rw [decide_eq_true h2, decide_eq_true (show (l.length : Int) ≤ 32 by omega)]; rfl
        · rw [decide_eq_false h2, decide_eq_false (show ¬ (l.length : Int) ≤ 32 by omega)]; rfl
      · rw [if_neg (by omega), decide_eq_false h1, schema_Check.j0]; rfl
  exact Ev.step step (sCheck_from s l hl l.length 0 _ (by omega))
theorem rCheck_ev (hs : s.size ≤ maxLen) : Ev (fun k => marqueeref03_Check.f k s l) (checkV s l) := by
  have step : ∀ k, marqueeref03_Check.f k s l = (marqueeref03_Name.f k s).bind fun t => marqueeref03_Check.j0 k (!(t && (decide (1 ≤ l.length) && decide (l.length ≤ 32)))) s l := fun k => by
    unfold marqueeref03_Check.f
    congr 1
    funext t
    cases t
    · rw [if_neg (by decide)]; rfl
    · rw [if_pos rfl]
      by_cases h1 : 1 ≤ l.length
      · rw [if_neg (by omega), decide_eq_true h1]
        by_cases h2 : l.length ≤ 32
        · rw [decide_eq_true h2, decide_eq_false (show ¬ (l.length : Int) > 32 by omega)]; rfl
        · rw [decide_eq_false h2, decide_eq_true (show (l.length : Int) > 32 by omega)]; rfl
      · rw [if_pos (by omega), decide_eq_false h1]; rfl
  refine Ev.congr step (Ev.bind (rName_ev s hs) ?_)
  unfold checkV
  cases (nameB s && (decide (1 ≤ l.length) && decide (l.length ≤ 32)))
  · rw [chk_false (fun h => by cases h.1)]
    exact Ev.stops (fun k => by rw [marqueeref03_Check.j0, if_pos (show (!false) = true from rfl)])
  · rw [chk_congr (b := colsFrom l 0) ⟨fun h => h.2, fun h => ⟨rfl, h⟩⟩]
    exact Ev.next (rCheck_from s l hl l.length 0 (by omega)) (fun k => by rw [marqueeref03_Check.j0, if_neg (by decide)]; rfl)
end
end Go.Proofs.YtnfaoofddokjgaaDoor
