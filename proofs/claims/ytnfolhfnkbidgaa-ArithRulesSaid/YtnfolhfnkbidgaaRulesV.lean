import Derived.Test.YtnfolhfnkbidgaaRulesW
import Derived.Test.YtnfolhfnkbidgaaPlMod
namespace Go.Proofs.Ytnfolhfnkbidgaa.Rules
open Go.RowKit Go.Proofs.Ytnfolhfnkbidgaa Go.Proofs.Ytnfolhfnkbidgaa.Print Go.Proofs.YtnfolhfnkbidgaaW.PrintWords Go.Proofs.YtnfolhfnkbidgaaW.PrintLast Go.Proofs.YtnfolhfnkbidgaaW.PrintMore
theorem ev_pos {α : Type} {c : Prop} [Decidable c] {f g : Nat → Option α} {r : α} (h : c) (k : Ev f r) : Ev (fun n => if c then f n else g n) r := Ev.congr (fun _ => if_pos h) k
theorem ev_neg {α : Type} {c : Prop} [Decidable c] {f g : Nat → Option α} {r : α} (h : ¬ c) (k : Ev g r) : Ev (fun n => if c then f n else g n) r := Ev.congr (fun _ => if_neg h) k
set_option maxRecDepth 100000 in
theorem sureR_200 : marqueelaw02_sure.f 200 = some true := by kernel_rfl
theorem sureR_ev : Ev (fun k => marqueelaw02_sure.f k) true := Ev.of marqueelaw02_sure.mono sureR_200
def kd (p : Bool) : Int := if p = true then 3 else 2
theorem value_eq (n : Int) (p : Bool) : marqueelaw02_value.f n p = some (kd p, n, E) := by
  unfold marqueelaw02_value.f marqueelaw02_dec.f marqueelaw02_num.f kd
  cases p <;> rfl
theorem ask_kd (p q : Bool) : ask (kd p) (kd q) = (false, 0) := by cases p <;> cases q <;> decide
theorem ask_three (q : Bool) : ask 3 (kd q) = (false, 0) := ask_kd true q
theorem addV_comm (a b : Int) : addV a b = addV b a := by
  unfold addV
  rw [Int.add_comm b a]
  congr 1
  generalize decide (wrap64 (a + b) < 0) = s
  generalize decide (a < 0) = p
  generalize decide (b < 0) = q
  cases s <;> cases p <;> cases q <;> rfl
theorem decsV_comm (k n l m : Int) : (decsV k n l m).2.2 = (decsV l m k n).2.2 := by
  show ((decV k n).2 && (decV l m).2) = ((decV l m).2 && (decV k n).2)
  exact Bool.and_comm _ _
theorem ask_comm (k l : Int) : ask k l = ask l k := by
  unfold ask
  by_cases c : num k = false ∧ k ≠ 0 ∨ num l = false ∧ l ≠ 0
  · rw [if_pos c, if_pos c.symm]
  · rw [if_neg c, if_neg (fun h => c h.symm), Bool.or_comm]
theorem sum_comm (k n l m : Int) : twoV addV k n l m = twoV addV l m k n := by
  unfold twoV
  rw [ask_comm k l, decsV_comm k n l m, addV_comm n m, addV_comm (decV k n).1]
  congr 1
  by_cases c : k = 2 ∧ l = 2
  · rw [if_pos c, if_pos c.symm]
  · rw [if_neg c, if_neg (show ¬ (l = 2 ∧ k = 2) from fun h => c h.symm)]
theorem decs_three (s l m : Int) : (decsV 3 s l m).2.2 = (decV l m).2 := by
  unfold decsV
  rw [decV_three]
  exact Bool.true_and _
theorem md_comm (a b d : Int) : md a b d = md b a d := by
  unfold md
  rw [Nat.mul_comm a.natAbs b.natAbs, show (decide (a < 0) != decide (b < 0)) = (decide (b < 0) != decide (a < 0)) from Bool.xor_comm _ _]
theorem mx_comm (a b : Int) : mx a b = mx b a := by
  unfold mx
  split <;> split <;> omega
theorem mul_comm' (k n l m : Int) : mulV k n l m = mulV l m k n := by
  unfold mulV
  rw [ask_comm k l, mx_comm k l, md_comm n m]
  congr 3
  by_cases c : k = 3 ∧ l = 3
  · rw [if_pos c, if_pos c.symm]
  · rw [if_neg c, if_neg (fun h => c h.symm)]
theorem addV_of {a b : Int} (ha : i64 a) (hb : i64 b) (h : (addV a b).2 = true) : i64 (a + b) := by
  by_cases c : i64 (a + b)
  · exact c
  exfalso
  unfold addV at h
  unfold i64 at ha hb c
  by_cases o : a + b > 9223372036854775807
  · have e : wrap64 (a + b) = a + b - 18446744073709551616 := by unfold wrap64; omega
    have h' : (decide (a < 0) != decide (b < 0) || (decide (wrap64 (a + b) < 0) == decide (a < 0))) = true := h
    rw [e, decide_eq_false (show ¬ a < 0 by omega), decide_eq_false (show ¬ b < 0 by omega), decide_eq_true (show a + b - 18446744073709551616 < 0 by omega)] at h'
    exact absurd h' (by decide)
  · have e : wrap64 (a + b) = a + b + 18446744073709551616 := by unfold wrap64; omega
    have h' : (decide (a < 0) != decide (b < 0) || (decide (wrap64 (a + b) < 0) == decide (a < 0))) = true := h
    rw [e, decide_eq_true (show a < 0 by omega), decide_eq_true (show b < 0 by omega), decide_eq_false (show ¬ a + b + 18446744073709551616 < 0 by omega)] at h'
    exact absurd h' (by decide)
theorem addV_ok {a b : Int} (hc : i64 (a + b)) : addV a b = (a + b, true) := by
  unfold addV
  rw [w64 hc]
  congr 1
  by_cases p : a < 0
  · by_cases q : b < 0
    · rw [decide_eq_true p, decide_eq_true q, decide_eq_true (show a + b < 0 by omega)]; rfl
    · rw [decide_eq_true p, decide_eq_false q]; rfl
  · by_cases q : b < 0
    · rw [decide_eq_false p, decide_eq_true q]; rfl
    · rw [decide_eq_false p, decide_eq_false q, decide_eq_false (show ¬ a + b < 0 by omega)]; rfl
theorem subV_ok {a b : Int} (hc : i64 (a - b)) : subV a b = (a - b, true) := by
  unfold subV
  rw [w64 hc]
  congr 1
  by_cases p : a < 0
  · by_cases q : b < 0
    · rw [decide_eq_true p, decide_eq_true q]; rfl
    · rw [decide_eq_true p, decide_eq_false q, decide_eq_true (show a - b < 0 by omega)]; rfl
  · by_cases q : b < 0
    · rw [decide_eq_false p, decide_eq_true q, decide_eq_false (show ¬ a - b < 0 by omega)]; rfl
    · rw [decide_eq_false p, decide_eq_false q]; rfl
theorem twoV_int (f : Int → Int → Int × Bool) (x y : Int) : twoV f 2 x 2 y = ofV 2 (f x y) := by
  unfold twoV
  rw [if_neg (by decide), if_pos ⟨rfl, rfl⟩]
theorem twoV_dec (f : Int → Int → Int × Bool) (k l x y : Int) (hk : ask k l = (false, 0)) (h : ¬ (k = 2 ∧ l = 2)) (hd : (decsV k x l y).2.2 = true) : twoV f k x l y = ofV 3 (f (decV k x).1 (decV l y).1) := by
  unfold twoV
  rw [hk, if_neg (by decide), if_neg h, if_pos hd]
theorem ofV_true (k n : Int) : ofV k (n, true) = (k, n, E, 0) := by
  unfold ofV
  exact if_pos rfl
theorem ofV_err {k : Int} {r : Int × Bool} (h : (ofV k r).2.2.2 = 0) : r.2 = true := by
  unfold ofV at h
  cases c : r.2
  · rw [c, if_neg (by decide)] at h
    exact absurd h (by decide)
  · rfl
theorem undo (p q : Bool) (x y : Int) (hx : i64 x) (hy : i64 y) (h : (twoV addV (kd p) x (kd q) y).2.2.2 = 0) :
    ∃ K s b, twoV addV (kd p) x (kd q) y = (K, s, E, 0) ∧ i64 s ∧ i64 b ∧ twoV subV K s (kd q) y = (K, b, E, 0) ∧ twoV subV K b (kd p) x = (K, 0, E, 0) := by
  have z : i64 0 := ⟨by decide, by decide⟩
  by_cases c : kd p = 2 ∧ kd q = 2
  · obtain ⟨c1, c2⟩ := c
    rw [c1, c2] at h ⊢
    rw [twoV_int] at h ⊢
    have hs := addV_of hx hy (ofV_err h)
    refine ⟨2, x + y, x, by rw [addV_ok hs, ofV_true], hs, hx, ?_, ?_⟩
    · rw [twoV_int, subV_ok (by rw [show x + y - y = x by omega]; exact hx), ofV_true, show x + y - y = x by omega]
    · rw [twoV_int, subV_ok (by rw [Int.sub_self]; exact z), ofV_true, Int.sub_self]
  · by_cases hd : (decsV (kd p) x (kd q) y).2.2 = true
    · have hd' : ((decV (kd p) x).2 && (decV (kd q) y).2) = true := hd
      rw [Bool.and_eq_true] at hd'
      have hX := decV_i64 (kd p) x hx
      have hY := decV_i64 (kd q) y hy
      rw [twoV_dec _ _ _ _ _ (ask_kd p q) c hd] at h ⊢
      have hs := addV_of hX hY (ofV_err h)
      have d1 : ∀ n, decV 3 n = (n, true) := decV_three
      refine ⟨3, (decV (kd p) x).1 + (decV (kd q) y).1, (decV (kd p) x).1, by rw [addV_ok hs, ofV_true], hs, hX, ?_, ?_⟩
      · rw [twoV_dec _ _ _ _ _ (ask_three q) (fun h => by have := h.1; omega) (by rw [decs_three]; exact hd'.2), d1]
        show ofV 3 (subV ((decV (kd p) x).1 + (decV (kd q) y).1) (decV (kd q) y).1) = _
        rw [subV_ok (by rw [show (decV (kd p) x).1 + (decV (kd q) y).1 - (decV (kd q) y).1 = (decV (kd p) x).1 by omega]; exact hX), ofV_true, show (decV (kd p) x).1 + (decV (kd q) y).1 - (decV (kd q) y).1 = (decV (kd p) x).1 by omega]
      · rw [twoV_dec _ _ _ _ _ (ask_three p) (fun h => by have := h.1; omega) (by rw [decs_three]; exact hd'.1), d1]
        show ofV 3 (subV (decV (kd p) x).1 (decV (kd p) x).1) = _
        rw [subV_ok (by rw [Int.sub_self]; exact z), ofV_true, Int.sub_self]
    · exfalso
      unfold twoV at h
      rw [ask_kd, if_neg (by decide), if_neg c, if_neg hd] at h
      exact absurd h (by decide)
theorem tdiv_bd {x y : Int} (hx : i64 x) (hc : ¬ (x = -9223372036854775808 ∧ y = -1)) (hy : y ≠ 0) : i64 (Int.tdiv x y) := by
  have h1 : (Int.tdiv x y).natAbs = x.natAbs / y.natAbs := Int.natAbs_tdiv x y
  have h2 : x.natAbs / y.natAbs ≤ x.natAbs := Nat.div_le_self _ _
  unfold i64 at hx ⊢
  by_cases e : (Int.tdiv x y).natAbs ≤ 9223372036854775807
  · omega
  · have hxa : x.natAbs = 9223372036854775808 := by omega
    have hy1 : y.natAbs = 1 := by
      by_cases g : y.natAbs ≤ 1
      · omega
      · exfalso
        have : x.natAbs / y.natAbs ≤ x.natAbs / 2 := Nat.div_le_div_left (by omega) (by decide)
        omega
    have hy' : y = 1 := by omega
    subst hy'
    rw [Int.tdiv_one]
    exact hx
theorem div_left {x y : Int} (hx : i64 x) (hy : y ≠ 0) : i64 (Int.tdiv x y * y) ∧ i64 (Int.tmod x y) ∧ Int.tdiv x y * y + Int.tmod x y = x ∧ (Int.tmod x y = 0 ∨ (decide (Int.tmod x y < 0) == decide (x < 0)) = true) := by
  have e : Int.tdiv x y * y + Int.tmod x y = x := by rw [Int.mul_comm]; exact Int.mul_tdiv_add_tmod x y
  have hs : (0 ≤ x → 0 ≤ Int.tmod x y ∧ Int.tmod x y ≤ x) ∧ (x < 0 → Int.tmod x y ≤ 0 ∧ x ≤ Int.tmod x y) := by
    have key : ∀ z : Int, 0 ≤ z → 0 ≤ Int.tmod z y ∧ Int.tmod z y ≤ z := fun z hz => by
      refine ⟨Int.tmod_nonneg _ hz, ?_⟩
      have a1 : (Int.tmod z y).natAbs = z.natAbs % y.natAbs := Int.natAbs_tmod z y
      have a2 : z.natAbs % y.natAbs ≤ z.natAbs := Nat.mod_le _ _
      omega
    refine ⟨key x, fun h => ?_⟩
    have := key (-x) (by omega)
    rw [Int.neg_tmod] at this
    omega
  unfold i64 at hx ⊢
  generalize Int.tmod x y = r at e hs ⊢
  generalize Int.tdiv x y * y = m at e ⊢
  by_cases n : x < 0
  · have := hs.2 n
    refine ⟨by omega, by omega, e, ?_⟩
    by_cases r0 : r = 0
    · exact .inl r0
    · right; rw [decide_eq_true n, decide_eq_true (show r < 0 by omega)]; rfl
  · have := hs.1 (by omega)
    refine ⟨by omega, by omega, e, ?_⟩
    right; rw [decide_eq_false n, decide_eq_false (show ¬ r < 0 by omega)]; rfl
theorem mod_one (x y : Int) : (leftV x y) = (Int.tmod x y, true) := by
  unfold leftV
  by_cases c : y = -1
  · subst c
    rw [if_pos rfl, show (-1 : Int) = -(1 : Int) from rfl, Int.tmod_neg, Int.tmod_one]
  · rw [if_neg c]
/-- What a whole quotient and its rest make up. -/
theorem parts_ev (x y : Int) (hx : i64 x) (hy : i64 y) (hy0 : y ≠ 0) (hc : ¬ (x = -9223372036854775808 ∧ y = -1)) :
    ∃ (d r m : Int), Ev (fun k => arith_Div.f k 2 x E 2 y E) (2, d, E, 0) ∧ Ev (fun k => arith_Mod.f k 2 x E 2 y E) (2, r, E, 0) ∧ Ev (fun k => arith_Mul.f k 2 d E 2 y E) (2, m, E, 0) ∧ Ev (fun k => arith_Add.f k 2 m E 2 r E) (2, x, E, 0) ∧ (r = 0 ∨ (decide (r < 0) == decide (x < 0)) = true) := by
  have hd := tdiv_bd hx hc hy0
  obtain ⟨h1, h2, h3, h4⟩ := div_left hx hy0
  have e1 : divV 2 x 2 y = (2, Int.tdiv x y, E, 0) := by
    unfold divV
    have q : quo x 1 y = Int.tdiv x y := by rw [quo_tdiv, Int.mul_one]
    rw [if_neg (by decide), if_neg hy0, if_pos ⟨rfl, rfl⟩, md_ok x 1 y hy0 (by rw [q]; exact hd), q, ofV_true]
  have e2 : modV 2 x 2 y = (2, Int.tmod x y, E, 0) := by
    unfold modV
    rw [if_neg (by decide), if_neg hy0, twoV_int, mod_one, ofV_true]
  have e3 : mulV 2 (Int.tdiv x y) 2 y = (2, Int.tdiv x y * y, E, 0) := by
    unfold mulV
    rw [if_neg (by decide), if_neg (by decide), md_ok _ _ 1 (by decide) (by rw [quo_one]; exact h1), quo_one, ofV_true]
    rfl
  have e4 : twoV addV 2 (Int.tdiv x y * y) 2 (Int.tmod x y) = (2, x, E, 0) := by
    rw [twoV_int, addV_ok (by rw [h3]; exact hx), ofV_true, h3]
  have d1 := div_ev 2 x E 2 y E hx hy
  have d2 := mod_ev 2 x E 2 y E hx hy
  have d3 := mul_ev 2 (Int.tdiv x y) E 2 y E hd hy
  have d4 := add_ev 2 (Int.tdiv x y * y) E 2 (Int.tmod x y) E h1 h2
  rw [e1] at d1
  rw [e2] at d2
  rw [e3] at d3
  rw [e4] at d4
  exact ⟨Int.tdiv x y, Int.tmod x y, Int.tdiv x y * y, d1, d2, d3, d4, h4⟩
theorem rules_any (x y : Int) (p q : Bool) (hx : i64 x) (hy : i64 y) (w : World) :
    Calls Try.prog 4 #[.int .i64 x, .int .i64 y, .agg #[.bool p, .bool q]] w fun e w' => e = .returned (.bool true) ∧ Below w.heap.size w w' := by
  have e1 := add_ev (kd p) x E (kd q) y E hx hy
  have e2 := add_ev (kd q) y E (kd p) x E hy hx
  have e3 := mul_ev (kd p) x E (kd q) y E hx hy
  have e4 := mul_ev (kd q) y E (kd p) x E hy hx
  rw [sum_comm (kd q) y (kd p) x] at e2
  rw [mul_comm' (kd q) y (kd p) x] at e4
  have u := undo p q x y hx hy
  generalize twoV addV (kd p) x (kd q) y = S at u e1 e2
  generalize mulV (kd p) x (kd q) y = M at e3 e4
  obtain ⟨s0, s1, s2, s3⟩ := S
  obtain ⟨m0, m1, m2, m3⟩ := M
  have hu : ∃ (b0 b1 : Int) (b2 : ByteArray) (c0 : Int) (c2 : ByteArray) (K : Nat), ∀ k, K ≤ k → (s3 = 0 → arith_Sub.f k s0 s1 s2 (kd q) y E = some (b0, b1, b2, 0) ∧ arith_Sub.f k b0 b1 b2 (kd p) x E = some (c0, 0, c2, 0)) := by
    by_cases z : s3 = 0
    · obtain ⟨K, s, b, e, hs, hb, h1, h2⟩ := u z
      injection e with e0 e
      injection e with e1' e
      injection e with e2' e3'
      subst e0 e1' e2' e3'
      have d1 := sub_ev s0 s1 E (kd q) y E hs hy
      have d2 := sub_ev s0 b E (kd p) x E hb hx
      rw [h1] at d1
      rw [h2] at d2
      obtain ⟨K1, g1⟩ := d1
      obtain ⟨K2, g2⟩ := d2
      exact ⟨s0, b, E, s0, E, max K1 K2, fun k hk _ => ⟨g1 k (by omega), g2 k (by omega)⟩⟩
    · exact ⟨0, 0, E, 0, E, 0, fun k _ h => absurd h z⟩
  have hd : ∃ (d0 d1 : Int) (d2 : ByteArray) (r0 r1 : Int) (r2 : ByteArray) (n0 n1 : Int) (n2 : ByteArray) (K : Nat), ∀ k, K ≤ k → (¬ (y = 0 ∨ p = true ∨ q = true ∨ (x = -9223372036854775808 ∧ y = -1)) → arith_Div.f k (kd p) x E (kd q) y E = some (d0, d1, d2, 0) ∧ arith_Mod.f k (kd p) x E (kd q) y E = some (r0, r1, r2, 0) ∧ arith_Mul.f k d0 d1 d2 (kd q) y E = some (n0, n1, n2, 0) ∧ arith_Add.f k n0 n1 n2 r0 r1 r2 = some (kd p, x, E, 0) ∧ (r1 = 0 ∨ (decide (r1 < 0) == decide (x < 0)) = true)) := by
    by_cases z : y = 0 ∨ p = true ∨ q = true ∨ (x = -9223372036854775808 ∧ y = -1)
    · exact ⟨0, 0, E, 0, 0, E, 0, 0, E, 0, fun k _ h => absurd z h⟩
    · have hp : p = false := by cases p <;> first | rfl | exact absurd (.inr (.inl rfl)) z
      have hq : q = false := by cases q <;> first | rfl | exact absurd (.inr (.inr (.inl rfl))) z
      subst hp hq
      obtain ⟨d, r, m, ⟨K1, g1⟩, ⟨K2, g2⟩, ⟨K3, g3⟩, ⟨K4, g4⟩, g5⟩ := parts_ev x y hx hy (fun h => z (.inl h)) (fun h => z (.inr (.inr (.inr h))))
      exact ⟨2, d, E, 2, r, E, 2, m, E, max (max K1 K2) (max K3 K4), fun k hk _ => ⟨g1 k (by omega), g2 k (by omega), g3 k (by omega), g4 k (by omega), g5⟩⟩
  obtain ⟨b0, b1, b2, c0, c2, Ku, gu⟩ := hu
  obtain ⟨d0, d1, d2, r0, r1, r2, n0, n1, n2, Kd_, gd⟩ := hd
  obtain ⟨K1, g1⟩ := e1
  obtain ⟨K2, g2⟩ := e2
  obtain ⟨K3, g3⟩ := e3
  obtain ⟨K4, g4⟩ := e4
  obtain ⟨K5, g5⟩ := sureR_ev
  obtain ⟨k, hk⟩ : ∃ k, K1 ≤ k ∧ K2 ≤ k ∧ K3 ≤ k ∧ K4 ≤ k ∧ K5 ≤ k ∧ Ku ≤ k ∧ Kd_ ≤ k := ⟨K1 + K2 + K3 + K4 + K5 + Ku + Kd_, by omega⟩
  exact rules_walk k x y p q (kd p) x E (kd q) y E s0 s1 s2 s3 m0 m1 m2 m3 w ⟨value_eq x p⟩ ⟨value_eq y q⟩ ⟨g1 k hk.1⟩ ⟨g2 k hk.2.1⟩ ⟨g3 k hk.2.2.1⟩ ⟨g4 k hk.2.2.2.1⟩ ⟨g5 k hk.2.2.2.2.1⟩ b0 b1 b2 c0 c2 ⟨gu k hk.2.2.2.2.2.1⟩ d0 d1 d2 r0 r1 r2 n0 n1 n2 ⟨gd k hk.2.2.2.2.2.2⟩
end Go.Proofs.Ytnfolhfnkbidgaa.Rules
