import Derived.Test.YtiabggpijomjmaaDoorPx8
import Derived.Test.YtiabggpijomjmaaDoorPlBA
namespace Go.Proofs.YtiabggpijomjmaaDoor
open Go.RowKit Print Go.Proofs.YtiabggpijomjmaaDoorW.PrintWords Go.Proofs.YtiabggpijomjmaaDoorW.PrintLast Go.Proofs.YtiabggpijomjmaaDoorW.PrintMore
theorem marqueelaw04_KeyBack.j0_eq (k : Nat) (x0 : List (S53)) (x1 : List (S53)) (x2 : ByteArray) (x7 : ByteArray) (x8 : Int) (x9 : ByteArray) (x10 : Int) : marqueelaw04_KeyBack.j0 (k + 1) x0 x1 x2 x7 x8 x9 x10 = if x8 = 0 then (if x10 = 0 then ((marqueeref03_SameRow.f k x0 x1).bind fun t222 => (marqueelaw04_KeyBack.j1 k x2 ((x7.toList == x9.toList) != t222))) else (marqueelaw04_KeyBack.j1 k x2 false)) else (marqueelaw04_KeyBack.j1 k x2 false) := by
  rw [marqueelaw04_KeyBack.j0]
theorem marqueelaw04_KeyBack.j1_eq (k : Nat) (x2 : ByteArray) (x56 : Bool) : marqueelaw04_KeyBack.j1 (k + 1) x2 x56 = if x56 = true then (none) else ((key_Decode.f k x2).bind fun bt223 => (if bt223.2 = 0 then ((key_Encode.f k bt223.1).bind fun bt227 => (if bt227.2 = 0 then (if bt227.1.toList = x2.toList then ((marqueelaw04_sure.f).bind fun t229 => (some t229)) else (none)) else (none))) else (if (bt223.1.length : Int) = 0 then ((marqueelaw04_sure.f).bind fun t230 => (some t230)) else (none)))) := by
  rw [marqueelaw04_KeyBack.j1]
theorem dec_cases : ∀ d (s : ByteArray) (acc : List S53), (decFrom d s acc).2 = 0 ∨ decFrom d s acc = ([], 31)
  | 0, s, acc => .inl (by rw [decFrom])
  | d + 1, s, acc => by
    rw [decFrom]
    by_cases hz : s.size = 0
    · rw [if_pos hz]; exact .inl rfl
    · rw [if_neg hz]
      cases raw1 s with
      | none => exact .inr rfl
      | some p =>
        obtain ⟨x, n⟩ := p
        show (if okV x.f0 x.f1 x.f2 = true then decFrom d (s.extract n s.size) (acc ++ [x]) else ([], 31)).2 = 0 ∨ (if okV x.f0 x.f1 x.f2 = true then decFrom d (s.extract n s.size) (acc ++ [x]) else ([], 31)) = ([], 31)
        by_cases ho : okV x.f0 x.f1 x.f2 = true
        · rw [if_pos ho]; exact dec_cases d _ _
        · rw [if_neg ho]; exact .inr rfl
theorem rd53_at (l : List S53) (i : Nat) (h : i < l.length) : rd_T53 l (i : Int) = l[i] := by
  unfold rd_T53
  rw [Int.toNat_natCast, List.getD_eq_getElem?_getD, List.getElem?_eq_getElem h]; rfl
theorem wt_enc (x : S53) (ho : okV x.f0 x.f1 x.f2 = true) : wtV x ≤ 17 * (encB x).length := by
  have hp := encB_pos x
  by_cases k4 : x.f0 = 4
  · have : (encB x).length = 3 + x.f2.size := by
      unfold encB
      rw [if_neg (by omega), if_neg (by omega), if_pos k4, List.length_cons, List.length_append, fixF_len, bytesOf_length]; omega
    unfold wtV; omega
  · have : x.f2.size = 0 := by
      unfold okV at ho
      by_cases k0 : x.f0 = 0
      · rw [if_pos k0] at ho; simp only [Bool.and_eq_true] at ho; rw [empty_of _ ho.2]; rfl
      · rw [if_neg k0] at ho
        by_cases k1 : x.f0 = 1
        · rw [if_pos k1] at ho; simp only [Bool.and_eq_true] at ho; rw [empty_of _ ho.1]; rfl
        · rw [if_neg k1] at ho
          by_cases k2 : x.f0 = 2
          · rw [if_pos k2] at ho; rw [empty_of _ ho]; rfl
          · rw [if_neg k2] at ho
            by_cases k3 : x.f0 = 3
            · rw [if_pos k3] at ho; rw [empty_of _ ho]; rfl
            · rw [if_neg k3, if_neg k4] at ho; cases ho
    unfold wtV; omega
theorem wt_all (l : List S53) (ho : ∀ x ∈ l, okV x.f0 x.f1 x.f2 = true) : ∀ d i, i + d = l.length → wtFrom l d i ≤ 17 * (allB (l.drop i)).length
  | 0, i, h => Nat.zero_le _
  | d + 1, i, h => by
    have IH := wt_all l ho d (i + 1) (by omega)
    have hx := wt_enc _ (ho _ (List.getElem_mem (show i < l.length by omega)))
    rw [wtFrom, rd53_at l i (by omega), List.drop_eq_getElem_cons (show i < l.length by omega)]
    unfold allB at IH ⊢
    rw [List.map_cons, List.flatten_cons, List.length_append]
    omega
theorem all_wt (l : List S53) : ∀ d i, i + d = l.length → (allB (l.drop i)).length ≤ wtFrom l d i
  | 0, i, h => by rw [List.drop_eq_nil_of_le (by omega)]; exact Nat.zero_le _
  | d + 1, i, h => by
    have IH := all_wt l d (i + 1) (by omega)
    have hx := encB_len (l[i]'(by omega))
    rw [wtFrom, rd53_at l i (by omega), List.drop_eq_getElem_cons (show i < l.length by omega)]
    unfold allB at IH ⊢
    rw [List.map_cons, List.flatten_cons, List.length_append]
    omega
theorem valEq_eq (x y : S53) (h : valEq x y = true) : x = y := by
  obtain ⟨a, b, t⟩ := x
  obtain ⟨a', b', t'⟩ := y
  unfold valEq at h
  simp only [Bool.and_eq_true, beq_iff_eq] at h
  obtain ⟨rfl, rfl, h⟩ := h
  rw [ByteArray.toList_eq, ByteArray.toList_eq] at h
  obtain rfl : t = t' := ByteArray.ext (Array.ext' h)
  rfl
theorem valsA_eq (l m : List S53) (he : l.length = m.length) : ∀ d i, i + d = l.length → valsA l m d i = true → l.drop i = m.drop i
  | 0, i, h, _ => by rw [List.drop_eq_nil_of_le (by omega), List.drop_eq_nil_of_le (by omega)]
  | d + 1, i, h, hv => by
    rw [valsA, Bool.and_eq_true] at hv
    have IH := valsA_eq l m he d (i + 1) (by omega) hv.2
    have hx := valEq_eq _ _ hv.1
    rw [rd53_at l i (by omega), rd53_at m i (by omega)] at hx
    rw [List.drop_eq_getElem_cons (show i < l.length by omega), List.drop_eq_getElem_cons (show i < m.length by omega), hx, IH]
theorem rowV_iff (l m : List S53) : rowV l m = true ↔ l = m := by
  constructor
  · intro h
    unfold rowV at h
    by_cases he : l.length = m.length
    · rw [if_pos he] at h
      exact valsA_eq l m he l.length 0 (by omega) h
    · rw [if_neg he] at h; cases h
  · rintro rfl
    exact rowV_self l
section
variable (l m : List S53) (s : ByteArray) (hl : l.length < 4398046511104) (hm : m.length < 4398046511104) (hwl : wtFrom l l.length 0 < 4398046511104) (hwm : wtFrom m m.length 0 < 4398046511104) (hs : s.size < 4398046511104)
  (hrl : ∀ x ∈ l, in64 x) (hrm : ∀ x ∈ m, in64 x) (hsure : marqueelaw04_sure.f = some true)
include hs hsure
theorem back_j1 : Ev (fun k => marqueelaw04_KeyBack.j1 k s false) true := by
  refine Ev.step (fun k => by rw [marqueelaw04_KeyBack.j1_eq, if_neg (by decide)]) (Ev.bind (kDec_ev s hs) ?_)
  rcases dec_cases s.size s [] with h | h
  · have h' : decV s = ((decV s).1, 0) := Prod.ext rfl h
    obtain ⟨r, e1, e2, e3⟩ := dec_back s.size s [] _ (Nat.le_refl _) h'
    rw [List.nil_append] at e1
    have hn := decFrom_len s.size s []
    simp only [List.length_nil, Nat.zero_add] at hn
    have e1' : (decV s).1 = r := e1
    have hn' : r.length ≤ s.size := by rw [← e1']; exact hn
    have hw := wt_all r e2 r.length 0 (by omega)
    rw [List.drop_zero, ← e3, bytesOf_length] at hw
    refine Ev.congr (fun k => by rw [h', if_pos rfl, e1']) (Ev.bind (kEnc_ev r (by omega) (by omega)) ?_)
    rw [encV_ok r e2, ← e3, str_bytesOf]
    exact Ev.congr (fun k => by rw [if_pos rfl, if_pos rfl, hsure]; rfl) (Ev.now _)
  · have h' : decV s = ([], 31) := h
    exact Ev.congr (fun k => by rw [h', if_neg (by decide), hsure]; rfl) (Ev.now _)
include hl hm hwl hwm hrl hrm
theorem keyBack_ev : Ev (fun k => marqueelaw04_KeyBack.f k l m s) true := by
  have hj := back_j1 s hs hsure
  have hjf : Ev (fun k => marqueelaw04_KeyBack.j0 k l m s (encV l).1 (encV l).2 (encV m).1 (encV m).2) true := by
    by_cases hol : ∀ x ∈ l, okV x.f0 x.f1 x.f2 = true
    · by_cases hom : ∀ x ∈ m, okV x.f0 x.f1 x.f2 = true
      · rw [encV_ok l hol, encV_ok m hom]
        refine Ev.step (fun k => by rw [marqueelaw04_KeyBack.j0_eq, if_pos rfl, if_pos rfl]) (Ev.bind (rRow_ev l m (by omega)) ?_)
        have e : ((((strOfNums (allB l)).toList == (strOfNums (allB m)).toList) != rowV l m) = false) := by
          by_cases h : l = m
          · rw [(rowV_iff l m).mpr h, h]; simp
          · have h1 : rowV l m = false := by
              cases hc : rowV l m
              · rfl
              · exact absurd ((rowV_iff l m).mp hc) h
            have h2 : ((strOfNums (allB l)).toList == (strOfNums (allB m)).toList) = false := by
              refine beq_eq_false_iff_ne.mpr fun hh => h ?_
              rw [ByteArray.toList_eq, ByteArray.toList_eq] at hh
              have hh' : strOfNums (allB l) = strOfNums (allB m) := ByteArray.ext (Array.ext' hh)
              have d1 := decV_enc l hol hrl
              rw [hh', decV_enc m hom hrm] at d1
              exact (congrArg Prod.fst d1).symm
            rw [h1, h2]; rfl
        exact Ev.congr (fun k => by rw [e]) hj
      · rw [encV_ok l hol, encV_not m hom]
        exact Ev.next hj (fun k => by rw [marqueelaw04_KeyBack.j0_eq, if_pos rfl, if_neg (by decide)])
    · rw [encV_not l hol]
      exact Ev.next hj (fun k => by rw [marqueelaw04_KeyBack.j0_eq, if_neg (by decide)])
  unfold marqueelaw04_KeyBack.f
  refine Ev.bind (kEnc_ev l (by omega) (by omega)) (Ev.bind (kEnc_ev m (by omega) (by omega)) ?_)
  by_cases hol : ∀ x ∈ l, okV x.f0 x.f1 x.f2 = true
  · have ha := all_wt l l.length 0 (by omega)
    rw [List.drop_zero] at ha
    have hz : (strOfNums (allB l)).size = (allB l).length := by rw [← bytesOf_length, bytesOf_str _ (allB_in l)]
    have hd := kDec_ev (strOfNums (allB l)) (by omega)
    rw [decV_enc l hol hrl] at hd
    have hrr : Ev (fun k => marqueeref03_SameRow.f k l l) true := by
      have := rRow_ev l l (by omega)
      rwa [rowV_self] at this
    have e2 := encV_ok l hol
    rw [e2] at hjf ⊢
    refine Ev.congr (fun k => by rw [if_pos rfl]) (Ev.bind hd ?_)
    refine Ev.congr (fun k => by rw [if_pos rfl]) (Ev.bind hrr ?_)
    exact Ev.congr (fun k => by rw [if_pos rfl]) hjf
  · have e2 := encV_not l hol
    rw [e2] at hjf ⊢
    exact Ev.congr (fun k => by rw [if_neg (by decide)]) hjf
end
end Go.Proofs.YtiabggpijomjmaaDoor
