import Derived.Test.YtnfolhfnkbidgaaPx11
import Derived.Test.YtnfolhfnkbidgaaPx12
import Derived.Test.YtnfolhfnkbidgaaPx13
import Derived.Test.YtnfolhfnkbidgaaPlMod
namespace Go.Proofs.Ytnfolhfnkbidgaa.Ref
open Go.RowKit Go.Proofs.Ytnfolhfnkbidgaa Print Go.Proofs.YtnfolhfnkbidgaaW.PrintWords Go.Proofs.YtnfolhfnkbidgaaW.PrintMore
theorem r_first.j0_eq (k : Nat) (x2 : Bool) (x8 : Bool) (x523000 : Int) (x523001 : Int) (x523002 : ByteArray) (x524000 : Int) (x524001 : Int) (x524002 : ByteArray) : marqueeref02_first.j0 (k + 1) x2 x8 x523000 x523001 x523002 x524000 x524001 x524002 = if x8 = true then (some (22, true)) else (if x523000 = 0 then (marqueeref02_first.j1 k x2 true x524000 x524001 x524002) else (marqueeref02_first.j1 k x2 (x524000 == 0) x524000 x524001 x524002)) := by
  rw [marqueeref02_first.j0]
theorem r_first.j1_eq (k : Nat) (x2 : Bool) (x27 : Bool) (x524000 : Int) (x524001 : Int) (x524002 : ByteArray) : marqueeref02_first.j1 (k + 1) x2 x27 x524000 x524001 x524002 = if x27 = true then (some (0, true)) else (if x2 = true then (if x524001 = 0 then (some (21, true)) else (some (0, false))) else (some (0, false))) := by
  rw [marqueeref02_first.j1]
theorem r_Add.j0_eq (k : Nat) (x31 : Bool) (x544000 : Int) (x544001 : Int) (x544002 : ByteArray) (x545000 : Int) (x545001 : Int) (x545002 : ByteArray) : marqueeref02_Add.j0 (k + 1) x31 x544000 x544001 x544002 x545000 x545001 x545002 = if x31 = true then ((marqueeref02_sum.f x544001 x545001).bind fun bt548 => ((marqueeref02_of.f 2 bt548.1 bt548.2).bind fun bt550 => (some (bt550.1, bt550.2.1, bt550.2.2.1, bt550.2.2.2)))) else ((marqueeref02_decs.f x544000 x544001 x544002 x545000 x545001 x545002).bind fun bt554 => ((marqueeref02_sum.f bt554.1 bt554.2.1).bind fun bt557 => (if bt554.2.2 = true then ((marqueeref02_of.f 3 bt557.1 bt557.2).bind fun bt559 => (some (bt559.1, bt559.2.1, bt559.2.2.1, bt559.2.2.2))) else ((marqueeref02_of.f 3 bt557.1 false).bind fun bt563 => (some (bt563.1, bt563.2.1, bt563.2.2.1, bt563.2.2.2)))))) := by
  rw [marqueeref02_Add.j0]
theorem r_Sub.j0_eq (k : Nat) (x31 : Bool) (x568000 : Int) (x568001 : Int) (x568002 : ByteArray) (x569000 : Int) (x569001 : Int) (x569002 : ByteArray) : marqueeref02_Sub.j0 (k + 1) x31 x568000 x568001 x568002 x569000 x569001 x569002 = if x31 = true then ((marqueeref02_difference.f x568001 x569001).bind fun bt572 => ((marqueeref02_of.f 2 bt572.1 bt572.2).bind fun bt574 => (some (bt574.1, bt574.2.1, bt574.2.2.1, bt574.2.2.2)))) else ((marqueeref02_decs.f x568000 x568001 x568002 x569000 x569001 x569002).bind fun bt578 => ((marqueeref02_difference.f bt578.1 bt578.2.1).bind fun bt581 => (if bt578.2.2 = true then ((marqueeref02_of.f 3 bt581.1 bt581.2).bind fun bt583 => (some (bt583.1, bt583.2.1, bt583.2.2.1, bt583.2.2.2))) else ((marqueeref02_of.f 3 bt581.1 false).bind fun bt587 => (some (bt587.1, bt587.2.1, bt587.2.2.1, bt587.2.2.2)))))) := by
  rw [marqueeref02_Sub.j0]
theorem ev_pos {α : Type} {c : Prop} [Decidable c] {f g : Nat → Option α} {r : α} (h : c) (k : Ev f r) : Ev (fun n => if c then f n else g n) r := Ev.congr (fun _ => if_pos h) k
theorem ev_neg {α : Type} {c : Prop} [Decidable c] {f g : Nat → Option α} {r : α} (h : ¬ c) (k : Ev g r) : Ev (fun n => if c then f n else g n) r := Ev.congr (fun _ => if_neg h) k
theorem number_eq (k n : Int) (t : ByteArray) : marqueeref02_number.f k n t = some (num k) := by
  unfold marqueeref02_number.f num
  by_cases c : k = 2
  · rw [if_pos c, c]; rfl
  · rw [if_neg c, show (k == 2) = false by simpa using c, Bool.false_or]
/-- What is wrong with two values; whether it is over. -/
def firstV (ka kb nb : Int) (d : Bool) : Int × Bool :=
  if (ask ka kb).2 ≠ 0 ∨ (ask ka kb).1 = true then ((ask ka kb).2, true) else if d = true ∧ nb = 0 then (21, true) else (0, false)
theorem first_ev (ka na : Int) (ta : ByteArray) (kb nb : Int) (tb : ByteArray) (d : Bool) : Ev (fun k => marqueeref02_first.f k ka na ta kb nb tb d) (firstV ka kb nb d) := by
  have hf : ∀ k, marqueeref02_first.f k ka na ta kb nb tb d = marqueeref02_first.j0 k d (decide (num ka = false ∧ ka ≠ 0 ∨ num kb = false ∧ kb ≠ 0)) ka na ta kb nb tb := fun k => by
    unfold marqueeref02_first.f
    rw [number_eq, number_eq, Option.bind_some, Option.bind_some, show (kb != 0) = decide (kb ≠ 0) by by_cases h : kb = 0 <;> simp [h]]
    cases ha : num ka <;> cases hb : num kb <;> by_cases h0 : ka = 0 <;> by_cases h1 : kb = 0 <;> simp [h0, h1]
  refine Ev.congr hf ?_
  unfold firstV
  by_cases c : num ka = false ∧ ka ≠ 0 ∨ num kb = false ∧ kb ≠ 0
  · rw [show ask ka kb = (false, 22) from if_pos c, if_pos (.inl (by decide)), decide_eq_true c]
    exact Ev.stops (fun k => by rw [r_first.j0_eq, if_pos rfl])
  · rw [show ask ka kb = (ka == 0 || kb == 0, 0) from if_neg c, decide_eq_false c]
    refine Ev.step (f := fun k => marqueeref02_first.j1 k d (ka == 0 || kb == 0) kb nb tb) (fun k => ?_) ?_
    · rw [r_first.j0_eq, if_neg (by decide)]
      by_cases h0 : ka = 0
      · rw [if_pos h0, h0]; rfl
      · rw [if_neg h0, show (ka == 0) = false by simpa using h0, Bool.false_or]
    · generalize (ka == 0 || kb == 0) = z
      refine Ev.stops (fun k => ?_)
      rw [r_first.j1_eq]
      cases z
      · cases d
        · rfl
        · show (if nb = 0 then some ((21 : Int), true) else some (0, false)) = some (if true = true ∧ nb = 0 then ((21 : Int), true) else (0, false))
          by_cases n0 : nb = 0
          · rw [if_pos n0, if_pos ⟨rfl, n0⟩]
          · rw [if_neg n0, if_neg (fun h => n0 h.2)]
      · rfl
theorem of_eq' (k : Int) (r : Int × Bool) : marqueeref02_of.f k r.1 r.2 = some (ofV k r) := by
  unfold marqueeref02_of.f ofV
  cases r.2
  · rw [if_neg (by decide), if_neg (by decide)]; rfl
  · rw [if_pos rfl, if_pos rfl]; rfl
theorem of_bad (k n : Int) : marqueeref02_of.f k n false = some (0, 0, E, 20) := by
  unfold marqueeref02_of.f
  rw [if_neg (by decide)]; rfl
theorem of_ok (k n : Int) : marqueeref02_of.f k n true = some (k, n, E, 0) := by
  unfold marqueeref02_of.f
  rw [if_pos rfl]; rfl
/-- The same where it is right. -/
def like (a b : Int × Bool) : Prop := a.2 = b.2 ∧ (b.2 = true → a.1 = b.1)
theorem like_of {a b : Int × Bool} (h : like a b) (k : Int) : ofV k a = ofV k b := by
  unfold ofV
  rw [h.1]
  cases c : b.2
  · rw [if_neg (by decide), if_neg (by decide)]
  · rw [if_pos rfl, if_pos rfl, h.2 c]
theorem sum_eq (a b : Int) (ha : i64 a) (hb : i64 b) : marqueeref02_sum.f a b = some (addV a b) := by
  unfold marqueeref02_sum.f addV
  unfold i64 at ha hb
  have hw : Aside0 (wrap64 (a + b) = a + b ∨ (wrap64 (a + b) = a + b - 18446744073709551616 ∧ a + b > 9223372036854775807) ∨ (wrap64 (a + b) = a + b + 18446744073709551616 ∧ a + b < -9223372036854775808)) := ⟨by unfold wrap64; omega⟩
  generalize wrap64 (a + b) = s at hw ⊢
  have hw' := hw.out
  by_cases p : a > 0
  · rw [if_pos p, if_neg (show ¬ a < 0 by omega), decide_eq_false (show ¬ a < 0 by omega)]
    by_cases q : b > 0
    · rw [if_pos q, decide_eq_false (show ¬ b < 0 by omega)]
      by_cases z : s < 0
      · rw [if_pos z, decide_eq_true z]; rfl
      · rw [if_neg z, decide_eq_false z]; rfl
    · rw [if_neg q]
      by_cases q' : b < 0
      · rw [decide_eq_true q']; rfl
      · rw [decide_eq_false q', decide_eq_false (show ¬ s < 0 by omega)]; rfl
  · rw [if_neg p]
    by_cases p' : a < 0
    · rw [if_pos p', decide_eq_true p']
      by_cases q : b < 0
      · rw [if_pos q, decide_eq_true q]
        by_cases z : s < 0
        · rw [decide_eq_true z, decide_eq_false (show ¬ s ≥ 0 by omega)]; rfl
        · rw [decide_eq_false z, decide_eq_true (show s ≥ 0 by omega)]; rfl
      · rw [if_neg q, decide_eq_false q]; rfl
    · rw [if_neg p', decide_eq_false p']
      by_cases q : b < 0
      · rw [decide_eq_true q]; rfl
      · rw [decide_eq_false q, decide_eq_false (show ¬ s < 0 by omega)]; rfl
theorem difference_eq (a b : Int) (ha : i64 a) (hb : i64 b) : marqueeref02_difference.f a b = some (subV a b) := by
  unfold marqueeref02_difference.f subV
  unfold i64 at ha hb
  have hw : Aside0 (wrap64 (a - b) = a - b ∨ (wrap64 (a - b) = a - b - 18446744073709551616 ∧ a - b > 9223372036854775807) ∨ (wrap64 (a - b) = a - b + 18446744073709551616 ∧ a - b < -9223372036854775808)) := ⟨by unfold wrap64; omega⟩
  generalize wrap64 (a - b) = s at hw ⊢
  have hw' := hw.out
  by_cases p : a ≥ 0
  · rw [if_pos p, if_neg (show ¬ a < 0 by omega), decide_eq_false (show ¬ a < 0 by omega)]
    by_cases q : b < 0
    · rw [if_pos q, decide_eq_true q]
      by_cases z : s < 0
      · rw [if_pos z, decide_eq_true z]; rfl
      · rw [if_neg z, decide_eq_false z]; rfl
    · rw [if_neg q, decide_eq_false q]; rfl
  · have p' : a < 0 := by omega
    rw [if_neg p, if_pos p', decide_eq_true p']
    by_cases q : b < 0
    · rw [if_neg (show ¬ b > 0 by omega), decide_eq_true q]; rfl
    · rw [decide_eq_false q]
      by_cases q' : b > 0
      · rw [if_pos q']
        by_cases z : s < 0
        · rw [decide_eq_true z, decide_eq_false (show ¬ s ≥ 0 by omega)]; rfl
        · rw [decide_eq_false z, decide_eq_true (show s ≥ 0 by omega)]; rfl
      · rw [if_neg q', decide_eq_true (show s < 0 by omega)]; rfl
/-- A number as ten-thousandths, as the document has it. -/
def rdec (k n : Int) : Int × Bool := if k = 3 then (n, true) else (wrap64 (n * 10000), decide (n ≤ 922337203685477 ∧ n ≥ -922337203685477))
theorem dec_eq (k n : Int) (t : ByteArray) : marqueeref02_dec.f k n t = some (rdec k n) := by
  unfold marqueeref02_dec.f rdec
  by_cases c : k = 3
  · rw [if_pos c, if_pos c]
  · rw [if_neg c, if_neg c]
    by_cases h : n ≤ 922337203685477
    · rw [if_pos h]
      congr 2
      by_cases g : n ≥ -922337203685477
      · rw [decide_eq_true g, decide_eq_true ⟨h, g⟩]
      · rw [decide_eq_false g, decide_eq_false (fun x => g x.2)]
    · rw [if_neg h, decide_eq_false (fun x => h x.1)]
theorem dec_like (k n : Int) : like (rdec k n) (decV k n) := by
  by_cases c : k = 3
  · subst c
    rw [decV_three]
    unfold rdec
    rw [if_pos rfl]
    exact ⟨rfl, fun _ => rfl⟩
  · unfold rdec
    rw [if_neg c]
    by_cases h : i64 (n * 10000)
    · rw [decV_ok k n c h]
      refine ⟨?_, fun _ => w64 h⟩
      unfold i64 at h
      exact decide_eq_true ⟨by omega, by omega⟩
    · refine ⟨?_, fun h' => by rw [decV_bad k n c h] at h'; cases h'⟩
      rw [decV_bad k n c h]
      refine decide_eq_false (fun x => h ?_)
      unfold i64
      omega
theorem rdec_i64 (k n : Int) (h : i64 n) : i64 (rdec k n).1 := by
  unfold rdec
  split
  · exact h
  · exact wrap_i64 _
theorem decs_eq (ka na : Int) (ta : ByteArray) (kb nb : Int) (tb : ByteArray) : marqueeref02_decs.f ka na ta kb nb tb = some ((rdec ka na).1, (rdec kb nb).1, (rdec ka na).2 && (rdec kb nb).2) := by
  unfold marqueeref02_decs.f
  rw [dec_eq, dec_eq, Option.bind_some, Option.bind_some]
  cases (rdec ka na).2
  · rw [if_neg (by decide)]; rfl
  · rw [if_pos rfl]; rfl
end Go.Proofs.Ytnfolhfnkbidgaa.Ref
