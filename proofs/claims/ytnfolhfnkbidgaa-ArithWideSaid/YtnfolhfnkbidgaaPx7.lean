-- written by wip/pp.py (a program of this session's own over the kit's printer) out of the translation
import Derived.Test.YtnfolhfnkbidgaaPx0
import Derived.Test.YtnfolhfnkbidgaaPx1
import Derived.Test.YtnfolhfnkbidgaaPx2
import Derived.Test.YtnfolhfnkbidgaaPx3
import Derived.Test.YtnfolhfnkbidgaaPx4
import Derived.Test.YtnfolhfnkbidgaaPx5
import Derived.Test.YtnfolhfnkbidgaaPx6
namespace Go.Proofs.Ytnfolhfnkbidgaa.Print
open Go.RowKit Go.Proofs.YtnfolhfnkbidgaaW.PrintWords Go.Proofs.YtnfolhfnkbidgaaW.PrintLast Go.Proofs.YtnfolhfnkbidgaaW.PrintMore
attribute [local go_sem] max2_int min2_int max_two min_two max_three min_three max_four min_four   -- for this text's walks alone
set_option linter.unusedVariables false
set_option linter.unusedSimpArgs false

attribute [local go_sem high] eqA23
/-! ### marqueelaw02_ArithWide: function 3 -/
def marqueelaw02_ArithWide.f (k : Nat) (a0 : Int) : Option (Bool) := (marqueelaw02_dec.f a0).bind fun bt325 => ((marqueelaw02_dec.f 10000).bind fun bt329 => ((arith_Mul.f k bt325.1 bt325.2.1 bt325.2.2 bt329.1 bt329.2.1 bt329.2.2).bind fun bt332 => ((marqueelaw02_dec.f 10000).bind fun bt337 => ((arith_Div.f k bt325.1 bt325.2.1 bt325.2.2 bt337.1 bt337.2.1 bt337.2.2).bind fun bt340 => ((marqueelaw02_dec.f 5000).bind fun bt345 => ((arith_Mul.f k bt325.1 bt325.2.1 bt325.2.2 bt345.1 bt345.2.1 bt345.2.2).bind fun bt348 => ((arith_Add.f k bt348.1 bt348.2.1 bt348.2.2.1 bt348.1 bt348.2.1 bt348.2.2.1).bind fun bt353 => ((arith_Sub.f k bt325.1 bt325.2.1 bt325.2.2 bt353.1 bt353.2.1 bt353.2.2.1).bind fun bt358 => (if bt332.2.2.2 = 0 then (if (bt332.1 == bt325.1 && (bt332.2.1 == bt325.2.1 && (bt332.2.2.1.toList == bt325.2.2.toList))) = true then (if bt340.2.2.2 = 0 then (if (bt340.1 == bt325.1 && (bt340.2.1 == bt325.2.1 && (bt340.2.2.1.toList == bt325.2.2.toList))) = true then (if bt348.2.2.2 = 0 then (if bt353.2.2.2 = 0 then (if bt358.2.2.2 = 0 then (if bt358.2.1 ≥ (-1) then (if bt358.2.1 ≤ 1 then ((marqueelaw02_sure.f k).bind fun t363 => (some t363)) else (none)) else (none)) else (none)) else (none)) else (none)) else (none)) else (none)) else (none)) else (none))))))))))
theorem marqueelaw02_ArithWide.mono : ∀ a0 k, LeO (marqueelaw02_ArithWide.f k a0) (marqueelaw02_ArithWide.f (k + 1) a0) := by
  intro a0 k
  unfold marqueelaw02_ArithWide.f
  repeat' first
      | (with_reducible exact arith_Add.mono _ _ _ _ _ _ _)
      | (with_reducible exact arith_Div.mono _ _ _ _ _ _ _)
      | (with_reducible exact arith_Mul.mono _ _ _ _ _ _ _)
      | (with_reducible exact arith_Sub.mono _ _ _ _ _ _ _)
      | (with_reducible exact marqueelaw02_sure.mono _)
      | (with_reducible exact LeO.refl _)
      | (with_reducible exact LeO.none _)
      | (with_reducible refine LeO.ite ?_ ?_)
      | (with_reducible refine LeO.bind ?_ (fun _ => ?_))
      | exact arith_Add.mono _ _ _ _ _ _ _
      | exact arith_Div.mono _ _ _ _ _ _ _
      | exact arith_Mul.mono _ _ _ _ _ _ _
      | exact arith_Sub.mono _ _ _ _ _ _ _
      | exact marqueelaw02_sure.mono _
      | exact LeO.none _
      | refine LeO.ite ?_ ?_
      | refine LeO.bind ?_ (fun _ => ?_)
def marqueelaw02_ArithWide.T2 : Bool × List (List Nat × List Nat) := (true, [([], []), ([], []), ([0, 1, 1], [0, 1]), ([2], [2]), ([3], [3]), ([3], [3]), ([], []), ([6, 4, 2, 0, 1, 2, 3, 4, 6], [4, 6]), ([5, 7, 0, 1, 2, 3, 4, 5, 6, 7], [5])])
def marqueelaw02_ArithWide.B2 : List Nat := [0, 0, 3, 7, 15, 15, 0, 95, 255]
theorem marqueelaw02_ArithWide.tab2 : rtab .any (opsOf Try.f3 2) = marqueelaw02_ArithWide.T2 := by kernel_rfl
theorem marqueelaw02_ArithWide.bits2 : waitsOk marqueelaw02_ArithWide.T2.2 marqueelaw02_ArithWide.B2 = true := by kernel_rfl
def marqueelaw02_ArithWide.T3 : Bool × List (List Nat × List Nat) := (true, [([], []), ([], []), ([0, 1, 1], [0, 1]), ([2], [2]), ([3], [3]), ([3], [3]), ([], []), ([6, 4, 2, 0, 1, 2, 3, 4, 6], [4, 6]), ([5, 7, 0, 1, 2, 3, 4, 5, 6, 7], [5])])
def marqueelaw02_ArithWide.B3 : List Nat := [0, 0, 3, 7, 15, 15, 0, 95, 255]
theorem marqueelaw02_ArithWide.tab3 : rtab .any (opsOf Try.f3 3) = marqueelaw02_ArithWide.T3 := by kernel_rfl
theorem marqueelaw02_ArithWide.bits3 : waitsOk marqueelaw02_ArithWide.T3.2 marqueelaw02_ArithWide.B3 = true := by kernel_rfl
def marqueelaw02_ArithWide.T4 : Bool × List (List Nat × List Nat) := (true, [([], []), ([], []), ([0, 1, 1], [0, 1]), ([2], [2]), ([3], [3]), ([3], [3]), ([], []), ([6, 4, 2, 0, 1, 2, 3, 4, 6], [4, 6]), ([5, 7, 0, 1, 2, 3, 4, 5, 6, 7], [5])])
def marqueelaw02_ArithWide.B4 : List Nat := [0, 0, 3, 7, 15, 15, 0, 95, 255]
theorem marqueelaw02_ArithWide.tab4 : rtab .any (opsOf Try.f3 4) = marqueelaw02_ArithWide.T4 := by kernel_rfl
theorem marqueelaw02_ArithWide.bits4 : waitsOk marqueelaw02_ArithWide.T4.2 marqueelaw02_ArithWide.B4 = true := by kernel_rfl
set_option maxHeartbeats 8000000 in
set_option maxRecDepth 100000 in
theorem marqueelaw02_ArithWide.calls (k : Nat) (a0 : Int) (r : Bool) (w : World) (h : marqueelaw02_ArithWide.f k a0 = some r) :
    Calls Try.prog 3 #[.int .i64 a0] w fun e w' => e = .returned (.bool r) ∧ Below w.heap.size w w' := by
  have hu23 := Try.underlying23
  have HB := Aside0.mk (Below.refl w.heap.size w)
  have H : ((marqueelaw02_dec.f a0).bind fun bt325 => ((marqueelaw02_dec.f 10000).bind fun bt329 => ((arith_Mul.f k bt325.1 bt325.2.1 bt325.2.2 bt329.1 bt329.2.1 bt329.2.2).bind fun bt332 => ((marqueelaw02_dec.f 10000).bind fun bt337 => ((arith_Div.f k bt325.1 bt325.2.1 bt325.2.2 bt337.1 bt337.2.1 bt337.2.2).bind fun bt340 => ((marqueelaw02_dec.f 5000).bind fun bt345 => ((arith_Mul.f k bt325.1 bt325.2.1 bt325.2.2 bt345.1 bt345.2.1 bt345.2.2).bind fun bt348 => ((arith_Add.f k bt348.1 bt348.2.1 bt348.2.2.1 bt348.1 bt348.2.1 bt348.2.2.1).bind fun bt353 => ((arith_Sub.f k bt325.1 bt325.2.1 bt325.2.2 bt353.1 bt353.2.1 bt353.2.2.1).bind fun bt358 => (if bt332.2.2.2 = 0 then (if (bt332.1 == bt325.1 && (bt332.2.1 == bt325.2.1 && (bt332.2.2.1.toList == bt325.2.2.toList))) = true then (if bt340.2.2.2 = 0 then (if (bt340.1 == bt325.1 && (bt340.2.1 == bt325.2.1 && (bt340.2.2.1.toList == bt325.2.2.toList))) = true then (if bt348.2.2.2 = 0 then (if bt353.2.2.2 = 0 then (if bt358.2.2.2 = 0 then (if bt358.2.1 ≥ (-1) then (if bt358.2.1 ≤ 1 then ((marqueelaw02_sure.f k).bind fun t363 => (some t363)) else (none)) else (none)) else (none)) else (none)) else (none)) else (none)) else (none)) else (none)) else (none))))))))))) = some r := h
  clear h
  replace H := Option.bind_eq_some_iff.mp H
  obtain ⟨⟨t325, t326, t327⟩, A20, H⟩ := H
  replace H : ((marqueelaw02_dec.f 10000).bind fun bt329 => ((arith_Mul.f k t325 t326 t327 bt329.1 bt329.2.1 bt329.2.2).bind fun bt332 => ((marqueelaw02_dec.f 10000).bind fun bt337 => ((arith_Div.f k t325 t326 t327 bt337.1 bt337.2.1 bt337.2.2).bind fun bt340 => ((marqueelaw02_dec.f 5000).bind fun bt345 => ((arith_Mul.f k t325 t326 t327 bt345.1 bt345.2.1 bt345.2.2).bind fun bt348 => ((arith_Add.f k bt348.1 bt348.2.1 bt348.2.2.1 bt348.1 bt348.2.1 bt348.2.2.1).bind fun bt353 => ((arith_Sub.f k t325 t326 t327 bt353.1 bt353.2.1 bt353.2.2.1).bind fun bt358 => (if bt332.2.2.2 = 0 then (if (bt332.1 == t325 && (bt332.2.1 == t326 && (bt332.2.2.1.toList == t327.toList))) = true then (if bt340.2.2.2 = 0 then (if (bt340.1 == t325 && (bt340.2.1 == t326 && (bt340.2.2.1.toList == t327.toList))) = true then (if bt348.2.2.2 = 0 then (if bt353.2.2.2 = 0 then (if bt358.2.2.2 = 0 then (if bt358.2.1 ≥ (-1) then (if bt358.2.1 ≤ 1 then ((marqueelaw02_sure.f k).bind fun t363 => (some t363)) else (none)) else (none)) else (none)) else (none)) else (none)) else (none)) else (none)) else (none)) else (none)))))))))) = some r := H
  have A2 := Aside0.mk A20
  clear A20
  replace H := Option.bind_eq_some_iff.mp H
  obtain ⟨⟨t329, t330, t331⟩, A30, H⟩ := H
  replace H : ((arith_Mul.f k t325 t326 t327 t329 t330 t331).bind fun bt332 => ((marqueelaw02_dec.f 10000).bind fun bt337 => ((arith_Div.f k t325 t326 t327 bt337.1 bt337.2.1 bt337.2.2).bind fun bt340 => ((marqueelaw02_dec.f 5000).bind fun bt345 => ((arith_Mul.f k t325 t326 t327 bt345.1 bt345.2.1 bt345.2.2).bind fun bt348 => ((arith_Add.f k bt348.1 bt348.2.1 bt348.2.2.1 bt348.1 bt348.2.1 bt348.2.2.1).bind fun bt353 => ((arith_Sub.f k t325 t326 t327 bt353.1 bt353.2.1 bt353.2.2.1).bind fun bt358 => (if bt332.2.2.2 = 0 then (if (bt332.1 == t325 && (bt332.2.1 == t326 && (bt332.2.2.1.toList == t327.toList))) = true then (if bt340.2.2.2 = 0 then (if (bt340.1 == t325 && (bt340.2.1 == t326 && (bt340.2.2.1.toList == t327.toList))) = true then (if bt348.2.2.2 = 0 then (if bt353.2.2.2 = 0 then (if bt358.2.2.2 = 0 then (if bt358.2.1 ≥ (-1) then (if bt358.2.1 ≤ 1 then ((marqueelaw02_sure.f k).bind fun t363 => (some t363)) else (none)) else (none)) else (none)) else (none)) else (none)) else (none)) else (none)) else (none)) else (none))))))))) = some r := H
  have A3 := Aside0.mk A30
  clear A30
  replace H := Option.bind_eq_some_iff.mp H
  obtain ⟨⟨t332, t333, t334, t335⟩, A40, H⟩ := H
  replace H : ((marqueelaw02_dec.f 10000).bind fun bt337 => ((arith_Div.f k t325 t326 t327 bt337.1 bt337.2.1 bt337.2.2).bind fun bt340 => ((marqueelaw02_dec.f 5000).bind fun bt345 => ((arith_Mul.f k t325 t326 t327 bt345.1 bt345.2.1 bt345.2.2).bind fun bt348 => ((arith_Add.f k bt348.1 bt348.2.1 bt348.2.2.1 bt348.1 bt348.2.1 bt348.2.2.1).bind fun bt353 => ((arith_Sub.f k t325 t326 t327 bt353.1 bt353.2.1 bt353.2.2.1).bind fun bt358 => (if t335 = 0 then (if (t332 == t325 && (t333 == t326 && (t334.toList == t327.toList))) = true then (if bt340.2.2.2 = 0 then (if (bt340.1 == t325 && (bt340.2.1 == t326 && (bt340.2.2.1.toList == t327.toList))) = true then (if bt348.2.2.2 = 0 then (if bt353.2.2.2 = 0 then (if bt358.2.2.2 = 0 then (if bt358.2.1 ≥ (-1) then (if bt358.2.1 ≤ 1 then ((marqueelaw02_sure.f k).bind fun t363 => (some t363)) else (none)) else (none)) else (none)) else (none)) else (none)) else (none)) else (none)) else (none)) else (none)))))))) = some r := H
  have A4 := Aside0.mk A40
  clear A40
  replace H := Option.bind_eq_some_iff.mp H
  obtain ⟨⟨t337, t338, t339⟩, A50, H⟩ := H
  replace H : ((arith_Div.f k t325 t326 t327 t337 t338 t339).bind fun bt340 => ((marqueelaw02_dec.f 5000).bind fun bt345 => ((arith_Mul.f k t325 t326 t327 bt345.1 bt345.2.1 bt345.2.2).bind fun bt348 => ((arith_Add.f k bt348.1 bt348.2.1 bt348.2.2.1 bt348.1 bt348.2.1 bt348.2.2.1).bind fun bt353 => ((arith_Sub.f k t325 t326 t327 bt353.1 bt353.2.1 bt353.2.2.1).bind fun bt358 => (if t335 = 0 then (if (t332 == t325 && (t333 == t326 && (t334.toList == t327.toList))) = true then (if bt340.2.2.2 = 0 then (if (bt340.1 == t325 && (bt340.2.1 == t326 && (bt340.2.2.1.toList == t327.toList))) = true then (if bt348.2.2.2 = 0 then (if bt353.2.2.2 = 0 then (if bt358.2.2.2 = 0 then (if bt358.2.1 ≥ (-1) then (if bt358.2.1 ≤ 1 then ((marqueelaw02_sure.f k).bind fun t363 => (some t363)) else (none)) else (none)) else (none)) else (none)) else (none)) else (none)) else (none)) else (none)) else (none))))))) = some r := H
  have A5 := Aside0.mk A50
  clear A50
  replace H := Option.bind_eq_some_iff.mp H
  obtain ⟨⟨t340, t341, t342, t343⟩, A60, H⟩ := H
  replace H : ((marqueelaw02_dec.f 5000).bind fun bt345 => ((arith_Mul.f k t325 t326 t327 bt345.1 bt345.2.1 bt345.2.2).bind fun bt348 => ((arith_Add.f k bt348.1 bt348.2.1 bt348.2.2.1 bt348.1 bt348.2.1 bt348.2.2.1).bind fun bt353 => ((arith_Sub.f k t325 t326 t327 bt353.1 bt353.2.1 bt353.2.2.1).bind fun bt358 => (if t335 = 0 then (if (t332 == t325 && (t333 == t326 && (t334.toList == t327.toList))) = true then (if t343 = 0 then (if (t340 == t325 && (t341 == t326 && (t342.toList == t327.toList))) = true then (if bt348.2.2.2 = 0 then (if bt353.2.2.2 = 0 then (if bt358.2.2.2 = 0 then (if bt358.2.1 ≥ (-1) then (if bt358.2.1 ≤ 1 then ((marqueelaw02_sure.f k).bind fun t363 => (some t363)) else (none)) else (none)) else (none)) else (none)) else (none)) else (none)) else (none)) else (none)) else (none)))))) = some r := H
  have A6 := Aside0.mk A60
  clear A60
  replace H := Option.bind_eq_some_iff.mp H
  obtain ⟨⟨t345, t346, t347⟩, A70, H⟩ := H
  replace H : ((arith_Mul.f k t325 t326 t327 t345 t346 t347).bind fun bt348 => ((arith_Add.f k bt348.1 bt348.2.1 bt348.2.2.1 bt348.1 bt348.2.1 bt348.2.2.1).bind fun bt353 => ((arith_Sub.f k t325 t326 t327 bt353.1 bt353.2.1 bt353.2.2.1).bind fun bt358 => (if t335 = 0 then (if (t332 == t325 && (t333 == t326 && (t334.toList == t327.toList))) = true then (if t343 = 0 then (if (t340 == t325 && (t341 == t326 && (t342.toList == t327.toList))) = true then (if bt348.2.2.2 = 0 then (if bt353.2.2.2 = 0 then (if bt358.2.2.2 = 0 then (if bt358.2.1 ≥ (-1) then (if bt358.2.1 ≤ 1 then ((marqueelaw02_sure.f k).bind fun t363 => (some t363)) else (none)) else (none)) else (none)) else (none)) else (none)) else (none)) else (none)) else (none)) else (none))))) = some r := H
  have A7 := Aside0.mk A70
  clear A70
  replace H := Option.bind_eq_some_iff.mp H
  obtain ⟨⟨t348, t349, t350, t351⟩, A80, H⟩ := H
  replace H : ((arith_Add.f k t348 t349 t350 t348 t349 t350).bind fun bt353 => ((arith_Sub.f k t325 t326 t327 bt353.1 bt353.2.1 bt353.2.2.1).bind fun bt358 => (if t335 = 0 then (if (t332 == t325 && (t333 == t326 && (t334.toList == t327.toList))) = true then (if t343 = 0 then (if (t340 == t325 && (t341 == t326 && (t342.toList == t327.toList))) = true then (if t351 = 0 then (if bt353.2.2.2 = 0 then (if bt358.2.2.2 = 0 then (if bt358.2.1 ≥ (-1) then (if bt358.2.1 ≤ 1 then ((marqueelaw02_sure.f k).bind fun t363 => (some t363)) else (none)) else (none)) else (none)) else (none)) else (none)) else (none)) else (none)) else (none)) else (none)))) = some r := H
  have A8 := Aside0.mk A80
  clear A80
  replace H := Option.bind_eq_some_iff.mp H
  obtain ⟨⟨t353, t354, t355, t356⟩, A90, H⟩ := H
  replace H : ((arith_Sub.f k t325 t326 t327 t353 t354 t355).bind fun bt358 => (if t335 = 0 then (if (t332 == t325 && (t333 == t326 && (t334.toList == t327.toList))) = true then (if t343 = 0 then (if (t340 == t325 && (t341 == t326 && (t342.toList == t327.toList))) = true then (if t351 = 0 then (if t356 = 0 then (if bt358.2.2.2 = 0 then (if bt358.2.1 ≥ (-1) then (if bt358.2.1 ≤ 1 then ((marqueelaw02_sure.f k).bind fun t363 => (some t363)) else (none)) else (none)) else (none)) else (none)) else (none)) else (none)) else (none)) else (none)) else (none))) = some r := H
  have A9 := Aside0.mk A90
  clear A90
  replace H := Option.bind_eq_some_iff.mp H
  obtain ⟨⟨t358, t359, t360, t361⟩, A100, H⟩ := H
  replace H : (if t335 = 0 then (if (t332 == t325 && (t333 == t326 && (t334.toList == t327.toList))) = true then (if t343 = 0 then (if (t340 == t325 && (t341 == t326 && (t342.toList == t327.toList))) = true then (if t351 = 0 then (if t356 = 0 then (if t361 = 0 then (if t359 ≥ (-1) then (if t359 ≤ 1 then ((marqueelaw02_sure.f k).bind fun t363 => (some t363)) else (none)) else (none)) else (none)) else (none)) else (none)) else (none)) else (none)) else (none)) else (none)) = some r := H
  have A10 := Aside0.mk A100
  clear A100
  by_cases c11 : t335 = 0
  · rw [if_pos c11] at H
    have c11b0 : (t335 == 0) = true := beq_iff_eq.mpr c11
    have c11b1 : (t335 != 0) = false := bne_eq_false_iff_eq.mpr c11
    clear c11
    by_cases c12 : (t332 == t325 && (t333 == t326 && (t334.toList == t327.toList))) = true
    · rw [if_pos c12] at H
      have c12b0 : (t332 == t325 && (t333 == t326 && (t334.toList == t327.toList))) = true := c12
      (try (have c12b1 : decide (t332 = t325 && (t333 == t326 && (t334.toList == t327.toList))) = true := by simpa using c12))
      (try (have c12b2 : (t332 == t325 && (t333 == t326 && (t334.toList == t327.toList))) = true := by simpa using c12))
      clear c12
      by_cases c13 : t343 = 0
      · rw [if_pos c13] at H
        have c13b0 : (t343 == 0) = true := beq_iff_eq.mpr c13
        have c13b1 : (t343 != 0) = false := bne_eq_false_iff_eq.mpr c13
        clear c13
        by_cases c14 : (t340 == t325 && (t341 == t326 && (t342.toList == t327.toList))) = true
        · rw [if_pos c14] at H
          have c14b0 : (t340 == t325 && (t341 == t326 && (t342.toList == t327.toList))) = true := c14
          (try (have c14b1 : decide (t340 = t325 && (t341 == t326 && (t342.toList == t327.toList))) = true := by simpa using c14))
          (try (have c14b2 : (t340 == t325 && (t341 == t326 && (t342.toList == t327.toList))) = true := by simpa using c14))
          clear c14
          by_cases c15 : t351 = 0
          · rw [if_pos c15] at H
            have c15b0 : (t351 == 0) = true := beq_iff_eq.mpr c15
            have c15b1 : (t351 != 0) = false := bne_eq_false_iff_eq.mpr c15
            clear c15
            by_cases c16 : t356 = 0
            · rw [if_pos c16] at H
              have c16b0 : (t356 == 0) = true := beq_iff_eq.mpr c16
              have c16b1 : (t356 != 0) = false := bne_eq_false_iff_eq.mpr c16
              clear c16
              by_cases c17 : t361 = 0
              · rw [if_pos c17] at H
                have c17b0 : (t361 == 0) = true := beq_iff_eq.mpr c17
                have c17b1 : (t361 != 0) = false := bne_eq_false_iff_eq.mpr c17
                clear c17
                by_cases c18 : t359 ≥ (-1)
                · rw [if_pos c18] at H
                  have c18b0 : decide ((-1) ≤ t359) = true := decide_eq_true c18
                  clear c18
                  by_cases c19 : t359 ≤ 1
                  · rw [if_pos c19] at H
                    have c19b0 : decide (t359 ≤ 1) = true := decide_eq_true c19
                    clear c19
                    replace H := Option.bind_eq_some_iff.mp H
                    obtain ⟨t363, A200, H⟩ := H
                    replace H : (some t363) = some r := H
                    have A20 := Aside0.mk A200
                    clear A200
                    obtain rfl := Option.some.inj H
                    go_enter Try.func3, Try.ntmps3
                    try go_wp2_with (first | ((with_reducible refine gate_callee (f := 7) rfl ?_); refine goesL_ (some 15) rfl rfl Try.func7 (by kernel_rfl) rfl #[.int .i64 a0] rfl (by (try simp only [List.map_toArray, List.map_cons, List.map_nil]); first | done | rfl | (simp only [List.length_drop, List.length_take]; rfl)) ?_; (with_reducible refine (marqueelaw02_dec.calls a0 t325 t326 t327 _ A2.out).mono ?_); rintro e w21 ⟨rfl, hb⟩; refine ⟨_, rfl, ?_⟩; have n0_ := Aside0.mk (below_step (by repeat (first | (with_reducible first | exact HB.out | apply below_alloc | apply pw_below_drewN | apply below_drew1) | exact HB.out)) hb); clear HB; have HB := n0_; clear n0_; (try clear hb); (try clear hb2); (try clear hk); (try clear hi); (try clear A2)) | ((with_reducible refine gate_dst (N := 3) rfl ?_); refine box_event ?hg (N := 3) ?hd (cs := #[.int .i64 0, .int .i64 0, .string (⟨#[]⟩ : ByteArray)]) (t := 23) ?hr ?_; (case hd => rfl); (case hg => rfl); (case hr => first | (go_simp; done) | (go_simp; rfl)); intro gb328 hg w22 hbox hb; have n0_ := Aside0.mk (below_step (by repeat (first | (with_reducible first | exact HB.out | apply below_alloc | apply pw_below_drewN | apply below_drew1) | exact HB.out)) hb); have n1_ := Aside0.mk (hbox); have n2_ := Aside0.mk ((by rw [hg]; exact (below_size (by repeat (first | (with_reducible first | exact HB.out | apply below_alloc | apply pw_below_drewN | apply below_drew1) | exact HB.out))) : w.heap.size ≤ gb328)); have n3_ := Aside0.mk ((by rw [hg]; exact (below_size (by repeat (first | (with_reducible first | exact HB.out | apply below_alloc | apply pw_below_drewN | apply below_drew1) | exact HB.out))) : w.heap.size ≤ gb328)); clear HB; have HB := n0_; have BK328 := n1_; have GW328 := n2_; have GE328 := n3_; clear n0_ n1_ n2_ n3_; clear hb hbox hg; have hcz23_0 : w22.cell? ⟨gb328, 0, none⟩ = some (.int .i64 0) := (blk_cell BK328.out 0).trans rfl; have hcz23_1 : w22.cell? ⟨gb328, 1, none⟩ = some (.int .i64 0) := (blk_cell BK328.out 1).trans rfl; have hcz23_2 : w22.cell? ⟨gb328, 2, none⟩ = some (.string (⟨#[]⟩ : ByteArray)) := (blk_cell BK328.out 2).trans rfl; have hfz23_0 := blk_frozen BK328.out 0; have hfz23_1 := blk_frozen BK328.out 1; have hfz23_2 := blk_frozen BK328.out 2))
                    have n0_ : Aside0 ((((w22.setCell ⟨gb328, 0, none⟩ (.int .i64 t325)).setCell ⟨gb328, 1, none⟩ (.int .i64 t326)).setCell ⟨gb328, 2, none⟩ (.string t327)).heap[gb328]? = some (.cells #[.int .i64 t325, .int .i64 t326, .string t327] 23 (0, 0))) := ⟨by (with_reducible repeat (first | refine blk_drewN ?_ _ | refine blk_drew ?_ | refine blk_alloc ?_ _)); refine blk_put (cs := #[.int .i64 t325, .int .i64 t326, .string (⟨#[]⟩ : ByteArray)]) ?_ 2 _ rfl; (with_reducible repeat (first | refine blk_drewN ?_ _ | refine blk_drew ?_ | refine blk_alloc ?_ _)); refine blk_put (cs := #[.int .i64 t325, .int .i64 0, .string (⟨#[]⟩ : ByteArray)]) ?_ 1 _ rfl; (with_reducible repeat (first | refine blk_drewN ?_ _ | refine blk_drew ?_ | refine blk_alloc ?_ _)); refine blk_put (cs := #[.int .i64 0, .int .i64 0, .string (⟨#[]⟩ : ByteArray)]) ?_ 0 _ rfl; (with_reducible repeat (first | refine blk_drewN ?_ _ | refine blk_drew ?_ | refine blk_alloc ?_ _)); exact BK328.out⟩
                    have n1_ : Aside0 (Below w.heap.size w (((w22.setCell ⟨gb328, 0, none⟩ (.int .i64 t325)).setCell ⟨gb328, 1, none⟩ (.int .i64 t326)).setCell ⟨gb328, 2, none⟩ (.string t327))) := ⟨by repeat (first | (with_reducible first | exact HB.out | apply below_alloc | apply pw_below_drewN | apply below_drew1 | refine below_set ?_ GE328.out) | exact HB.out)⟩
                    (try clear BK328)
                    (try clear HB)
                    generalize (((w22.setCell ⟨gb328, 0, none⟩ (.int .i64 t325)).setCell ⟨gb328, 1, none⟩ (.int .i64 t326)).setCell ⟨gb328, 2, none⟩ (.string t327)) = w24 at n0_ n1_ ⊢
                    have BK328 := n0_
                    have HB := n1_
                    clear n0_ n1_
                    have n0_ := Aside0.mk (blk_drew BK328.out)
                    have n1_ := Aside0.mk (below_drew1 HB.out)
                    clear BK328
                    clear HB
                    have BK328 := n0_
                    have HB := n1_
                    clear n0_ n1_
                    refine start_ (n := 9) (S := fun w' => w'.cell? ⟨gb328, 0, none⟩ = some (.int .i64 t325) ∧ w'.cell? ⟨gb328, 1, none⟩ = some (.int .i64 t326) ∧ w'.cell? ⟨gb328, 2, none⟩ = some (.string t327)) (ds := []) #[false, false, false, false, false, false, false, false, false] (by kernel_rfl) rfl rfl ⟨(blk_cell BK328.out 0).trans rfl, (blk_cell BK328.out 1).trans rfl, (blk_cell BK328.out 2).trans rfl⟩ (fun hHeld => ?_); refine with_tabW marqueelaw02_ArithWide.tab2 marqueelaw02_ArithWide.bits2 (fun HT_ HW_ => ?_)
                    generalize w24.drew = w25 at BK328 HB hHeld ⊢
                    refine take_ (i := 0) (N := some 17) (v := ?_) (a' := ?_) #[true, false, false, false, false, false, false, false, false] rfl rfl (take_ofW HT_.out HW_.out (by kernel_rfl)) (fun _ _ _ h => h) (Or.inl ⟨by rfl, ?_⟩) hHeld ?_ ?_
                    rotate_left
                    · rintro w' ⟨s0, s1, s2⟩
                      go_simp
                      with_reducible rfl
                    rotate_left
                    · simp only [Act.put, List.setIfInBounds_toArray, List.set_cons_zero, List.set_cons_succ, i64_w, i32_w]
                      rfl
                    refine join_ (σ := Nat) 2 #[true, true, true, true, true, true, true, false, false] (fun s_ => [(18, .agg #[.int .i64 t329, .int .i64 t330, .string t331]), (19, .tuple #[.agg #[.int .i64 t332, .int .i64 t333, .string t334], .int .i64 t335]), (4, .pointer (some ⟨s_, 0, none⟩)), (16, .tuple #[.agg #[.int .i64 t332, .int .i64 t333, .string t334], .int .i64 t335]), (20, .agg #[.int .i64 t332, .int .i64 t333, .string t334]), (21, .int .i64 t335)]) (fun s_ w' => (w'.cell? ⟨gb328, 0, none⟩ = some (.int .i64 t325) ∧ w'.cell? ⟨gb328, 1, none⟩ = some (.int .i64 t326) ∧ w'.cell? ⟨gb328, 2, none⟩ = some (.string t327)) ∧ (w'.heap[gb328]? = some (.cells #[.int .i64 t325, .int .i64 t326, .string t327] 23 (0, 0))) ∧ (w'.heap[s_]? = some (.cells #[.int .i64 0, .int .i64 0, .string (⟨#[]⟩ : ByteArray)] 23 (0, 0))) ∧ (w.heap.size ≤ s_) ∧ (w.heap.size ≤ s_) ∧ (gb328 ≠ s_) ∧ (s_ ≠ gb328) ∧ (Below w.heap.size w w')) ?_ ?_
                    rotate_left
                    · intro hCont
                      refine two_ (i := 1) (j := 6) (Ni := some 18) (Nj := some 4) #[true, true, false, false, false, false, false, false, false] #[true, false, false, false, false, false, true, false, false] rfl rfl rfl rfl (two_of HT_.out (by kernel_rfl)) (by decide) (by decide) (fun K hK => ?_) (fun K hK => ?_)
                      · skip
                        refine goes_ Try.func7 (by kernel_rfl) rfl #[.int .i64 10000] (by rfl) rfl rfl (by (try simp only [List.map_toArray, List.map_cons, List.map_nil]); first | done | rfl | (simp only [List.length_drop, List.length_take]; rfl)) ?_
                        with_reducible refine (marqueelaw02_dec.calls 10000 t329 t330 t331 _ A3.out).mono ?_
                        rintro e w26 ⟨rfl, hb⟩
                        refine ⟨_, rfl, ?_⟩
                        have n0_ := Aside0.mk (blk_below (g := gb328) (o := .cells #[.int .i64 t325, .int .i64 t326, .string t327] 23 (0, 0)) (by (with_reducible repeat (first | refine blk_drewN ?_ _ | refine blk_drew ?_ | refine blk_alloc ?_ _)); exact BK328.out) hb)
                        have n1_ := Aside0.mk (below_step (by repeat (first | (with_reducible first | exact HB.out | apply below_alloc | apply pw_below_drewN | apply below_drew1 | refine below_set ?_ GE328.out) | exact HB.out)) hb)
                        clear BK328
                        clear HB
                        have BK328 := n0_
                        have HB := n1_
                        clear n0_ n1_
                        (try clear hb)
                        (try clear hb2)
                        (try clear hk)
                        (try clear hi)
                        refine hK.out _ _ ⟨(blk_cell BK328.out 0).trans rfl, (blk_cell BK328.out 1).trans rfl, (blk_cell BK328.out 2).trans rfl⟩ (fun hHeld => ?_)
                        clear hK K
                        refine norm_ (a' := ?_) ?_ ?_
                        rotate_left
                        · show Act.put _ (some 18) _ = _
                          simp only [Act.put, List.setIfInBounds_toArray, List.set_cons_zero, List.set_cons_succ, i64_w, i32_w]
                          rfl
                        refine two_ (i := 2) (j := 6) (Ni := some 19) (Nj := some 4) #[true, true, true, false, false, false, false, false, false] #[true, true, false, false, false, false, true, false, false] rfl rfl rfl rfl (two_of HT_.out (by kernel_rfl)) (by decide) (by decide) (fun K hK => ?_) (fun K hK => ?_)
                        · skip
                          refine goes_ Try.func8 (by kernel_rfl) rfl #[.agg #[.int .i64 t325, .int .i64 t326, .string t327], .agg #[.int .i64 t329, .int .i64 t330, .string t331]] (by rfl) rfl rfl (by (try simp only [List.map_toArray, List.map_cons, List.map_nil]); first | done | rfl | (simp only [List.length_drop, List.length_take]; rfl)) ?_
                          with_reducible refine (arith_Mul.calls k t325 t326 t327 t329 t330 t331 t332 t333 t334 t335 _ A4.out).mono ?_
                          rintro e w27 ⟨rfl, hb⟩
                          refine ⟨_, rfl, ?_⟩
                          have n0_ := Aside0.mk (blk_below (g := gb328) (o := .cells #[.int .i64 t325, .int .i64 t326, .string t327] 23 (0, 0)) (by (with_reducible repeat (first | refine blk_drewN ?_ _ | refine blk_drew ?_ | refine blk_alloc ?_ _)); exact BK328.out) hb)
                          have n1_ := Aside0.mk (below_step (by repeat (first | (with_reducible first | exact HB.out | apply below_alloc | apply pw_below_drewN | apply below_drew1 | refine below_set ?_ GE328.out) | exact HB.out)) hb)
                          clear BK328
                          clear HB
                          have BK328 := n0_
                          have HB := n1_
                          clear n0_ n1_
                          (try clear hb)
                          (try clear hb2)
                          (try clear hk)
                          (try clear hi)
                          refine hK.out _ _ ⟨(blk_cell BK328.out 0).trans rfl, (blk_cell BK328.out 1).trans rfl, (blk_cell BK328.out 2).trans rfl⟩ (fun hHeld => ?_)
                          clear hK K
                          refine norm_ (a' := ?_) ?_ ?_
                          rotate_left
                          · show Act.put _ (some 19) _ = _
                            simp only [Act.put, List.setIfInBounds_toArray, List.set_cons_zero, List.set_cons_succ, i64_w, i32_w]
                            rfl
                          refine pure_ (i := 3) (N := some 16) (v := ?_) (a' := ?_) #[true, true, true, true, false, false, false, false, false] rfl rfl (any_of HT_.out (by kernel_rfl)) (fun _ _ _ h => h) (Or.inl ⟨by rfl, ?_⟩) ?_ ?_
                          rotate_left
                          · intro w'
                            go_simp
                            with_reducible rfl
                          rotate_left
                          · simp only [Act.put, List.setIfInBounds_toArray, List.set_cons_zero, List.set_cons_succ, i64_w, i32_w]
                            rfl
                          refine pure_ (i := 4) (N := some 20) (v := ?_) (a' := ?_) #[true, true, true, true, true, false, false, false, false] rfl rfl (any_of HT_.out (by kernel_rfl)) (fun _ _ _ h => h) (Or.inl ⟨by rfl, ?_⟩) ?_ ?_
                          rotate_left
                          · intro w'
                            go_simp
                            with_reducible rfl
                          rotate_left
                          · simp only [Act.put, List.setIfInBounds_toArray, List.set_cons_zero, List.set_cons_succ, i64_w, i32_w]
                            rfl
                          refine pure_ (i := 5) (N := some 21) (v := ?_) (a' := ?_) #[true, true, true, true, true, true, false, false, false] rfl rfl (any_of HT_.out (by kernel_rfl)) (fun _ _ _ h => h) (Or.inl ⟨by rfl, ?_⟩) ?_ ?_
                          rotate_left
                          · intro w'
                            go_simp
                            with_reducible rfl
                          rotate_left
                          · simp only [Act.put, List.setIfInBounds_toArray, List.set_cons_zero, List.set_cons_succ, i64_w, i32_w]
                            rfl
                          refine one_ (i := 6) (N := some 4) #[true, true, true, true, true, true, true, false, false] rfl rfl (one_of HT_.out (by kernel_rfl)) (by decide) (fun K hK => ?_)
                          refine box_step ?hg (N := 4) ?hd (cs := #[.int .i64 0, .int .i64 0, .string (⟨#[]⟩ : ByteArray)]) (t := 23) ?hr ?_; (case hd => rfl); (case hg => rfl); (case hr => first | (go_simp; done) | (go_simp; rfl))
                          intro gb336 hg w28 hbox hb
                          have n0_ := Aside0.mk (blk_below (g := gb328) (o := .cells #[.int .i64 t325, .int .i64 t326, .string t327] 23 (0, 0)) (by (with_reducible repeat (first | refine blk_drewN ?_ _ | refine blk_drew ?_ | refine blk_alloc ?_ _)); exact BK328.out) hb)
                          have n1_ := Aside0.mk (below_step (by repeat (first | (with_reducible first | exact HB.out | apply below_alloc | apply pw_below_drewN | apply below_drew1 | refine below_set ?_ GE328.out) | exact HB.out)) hb)
                          have n2_ := Aside0.mk (hbox)
                          have n3_ := Aside0.mk ((by rw [hg]; exact (below_size (by repeat (first | (with_reducible first | exact HB.out | apply below_alloc | apply pw_below_drewN | apply below_drew1 | refine below_set ?_ GE328.out) | exact HB.out))) : w.heap.size ≤ gb336))
                          have n4_ := Aside0.mk ((by rw [hg]; exact (below_size (by repeat (first | (with_reducible first | exact HB.out | apply below_alloc | apply pw_below_drewN | apply below_drew1 | refine below_set ?_ GE328.out) | exact HB.out))) : w.heap.size ≤ gb336))
                          have n5_ := Aside0.mk ((by rw [hg]; exact Nat.ne_of_lt (blk_lt (g := gb328) (o := .cells #[.int .i64 t325, .int .i64 t326, .string t327] 23 (0, 0)) (by (with_reducible repeat (first | refine blk_drewN ?_ _ | refine blk_drew ?_ | refine blk_alloc ?_ _)); exact BK328.out)) : gb328 ≠ gb336))
                          have n6_ := Aside0.mk ((by rw [hg]; exact Nat.ne_of_gt (blk_lt (g := gb328) (o := .cells #[.int .i64 t325, .int .i64 t326, .string t327] 23 (0, 0)) (by (with_reducible repeat (first | refine blk_drewN ?_ _ | refine blk_drew ?_ | refine blk_alloc ?_ _)); exact BK328.out)) : gb336 ≠ gb328))
                          clear BK328
                          clear HB
                          have BK328 := n0_
                          have HB := n1_
                          have BK336 := n2_
                          have GW336 := n3_
                          have GE336 := n4_
                          have NB328_336 := n5_
                          have NB336_328 := n6_
                          clear n0_ n1_ n2_ n3_ n4_ n5_ n6_
                          clear hb hbox hg
                          refine hK.out _ _ ⟨(blk_cell BK328.out 0).trans rfl, (blk_cell BK328.out 1).trans rfl, (blk_cell BK328.out 2).trans rfl⟩ (fun hHeld => ?_)
                          clear hK K
                          refine norm_ (a' := ?_) ?_ ?_
                          rotate_left
                          · show Act.put _ (some 4) _ = _
                            simp only [Act.put, List.setIfInBounds_toArray, List.set_cons_zero, List.set_cons_succ, i64_w, i32_w]
                            rfl
                          exact norm_ (by simp only [putAll, Act.put, List.setIfInBounds_toArray, List.set_cons_zero, List.set_cons_succ]) (hCont (gb336) _ ⟨hHeld, (by (with_reducible repeat (first | refine blk_drewN ?_ _ | refine blk_drew ?_ | refine blk_alloc ?_ _)); exact BK328.out), (by (with_reducible repeat (first | refine blk_drewN ?_ _ | refine blk_drew ?_ | refine blk_alloc ?_ _)); exact BK336.out), GW336.out, GE336.out, NB328_336.out, NB336_328.out, (by repeat (first | (with_reducible first | exact HB.out | apply below_alloc | apply pw_below_drewN | apply below_drew1 | refine below_set ?_ GE328.out | refine below_set ?_ GE336.out) | exact HB.out))⟩)
                        · skip
                          refine box_step ?hg (N := 4) ?hd (cs := #[.int .i64 0, .int .i64 0, .string (⟨#[]⟩ : ByteArray)]) (t := 23) ?hr ?_; (case hd => rfl); (case hg => rfl); (case hr => first | (go_simp; done) | (go_simp; rfl))
                          intro gb336 hg w27 hbox hb
                          have n0_ := Aside0.mk (blk_below (g := gb328) (o := .cells #[.int .i64 t325, .int .i64 t326, .string t327] 23 (0, 0)) (by (with_reducible repeat (first | refine blk_drewN ?_ _ | refine blk_drew ?_ | refine blk_alloc ?_ _)); exact BK328.out) hb)
                          have n1_ := Aside0.mk (below_step (by repeat (first | (with_reducible first | exact HB.out | apply below_alloc | apply pw_below_drewN | apply below_drew1 | refine below_set ?_ GE328.out) | exact HB.out)) hb)
                          have n2_ := Aside0.mk (hbox)
                          have n3_ := Aside0.mk ((by rw [hg]; exact (below_size (by repeat (first | (with_reducible first | exact HB.out | apply below_alloc | apply pw_below_drewN | apply below_drew1 | refine below_set ?_ GE328.out) | exact HB.out))) : w.heap.size ≤ gb336))
                          have n4_ := Aside0.mk ((by rw [hg]; exact (below_size (by repeat (first | (with_reducible first | exact HB.out | apply below_alloc | apply pw_below_drewN | apply below_drew1 | refine below_set ?_ GE328.out) | exact HB.out))) : w.heap.size ≤ gb336))
                          have n5_ := Aside0.mk ((by rw [hg]; exact Nat.ne_of_lt (blk_lt (g := gb328) (o := .cells #[.int .i64 t325, .int .i64 t326, .string t327] 23 (0, 0)) (by (with_reducible repeat (first | refine blk_drewN ?_ _ | refine blk_drew ?_ | refine blk_alloc ?_ _)); exact BK328.out)) : gb328 ≠ gb336))
                          have n6_ := Aside0.mk ((by rw [hg]; exact Nat.ne_of_gt (blk_lt (g := gb328) (o := .cells #[.int .i64 t325, .int .i64 t326, .string t327] 23 (0, 0)) (by (with_reducible repeat (first | refine blk_drewN ?_ _ | refine blk_drew ?_ | refine blk_alloc ?_ _)); exact BK328.out)) : gb336 ≠ gb328))
                          clear BK328
                          clear HB
                          have BK328 := n0_
                          have HB := n1_
                          have BK336 := n2_
                          have GW336 := n3_
                          have GE336 := n4_
                          have NB328_336 := n5_
                          have NB336_328 := n6_
                          clear n0_ n1_ n2_ n3_ n4_ n5_ n6_
                          clear hb hbox hg
                          refine hK.out _ _ ⟨(blk_cell BK328.out 0).trans rfl, (blk_cell BK328.out 1).trans rfl, (blk_cell BK328.out 2).trans rfl⟩ (fun hHeld => ?_)
                          clear hK K
                          refine norm_ (a' := ?_) ?_ ?_
                          rotate_left
                          · show Act.put _ (some 4) _ = _
                            simp only [Act.put, List.setIfInBounds_toArray, List.set_cons_zero, List.set_cons_succ, i64_w, i32_w]
                            rfl
                          refine one_ (i := 2) (N := some 19) #[true, true, true, false, false, false, true, false, false] rfl rfl (one_of HT_.out (by kernel_rfl)) (by decide) (fun K hK => ?_)
                          refine goes_ Try.func8 (by kernel_rfl) rfl #[.agg #[.int .i64 t325, .int .i64 t326, .string t327], .agg #[.int .i64 t329, .int .i64 t330, .string t331]] (by rfl) rfl rfl (by (try simp only [List.map_toArray, List.map_cons, List.map_nil]); first | done | rfl | (simp only [List.length_drop, List.length_take]; rfl)) ?_
                          with_reducible refine (arith_Mul.calls k t325 t326 t327 t329 t330 t331 t332 t333 t334 t335 _ A4.out).mono ?_
                          rintro e w28 ⟨rfl, hb⟩
                          refine ⟨_, rfl, ?_⟩
                          have n0_ := Aside0.mk (blk_below (g := gb328) (o := .cells #[.int .i64 t325, .int .i64 t326, .string t327] 23 (0, 0)) (by (with_reducible repeat (first | refine blk_drewN ?_ _ | refine blk_drew ?_ | refine blk_alloc ?_ _)); exact BK328.out) hb)
                          have n1_ := Aside0.mk (blk_below (g := gb336) (o := .cells #[.int .i64 0, .int .i64 0, .string (⟨#[]⟩ : ByteArray)] 23 (0, 0)) (by (with_reducible repeat (first | refine blk_drewN ?_ _ | refine blk_drew ?_ | refine blk_alloc ?_ _)); exact BK336.out) hb)
                          have n2_ := Aside0.mk (below_step (by repeat (first | (with_reducible first | exact HB.out | apply below_alloc | apply pw_below_drewN | apply below_drew1 | refine below_set ?_ GE328.out | refine below_set ?_ GE336.out) | exact HB.out)) hb)
                          clear BK328
                          clear BK336
                          clear HB
                          have BK328 := n0_
                          have BK336 := n1_
                          have HB := n2_
                          clear n0_ n1_ n2_
                          (try clear hb)
                          (try clear hb2)
                          (try clear hk)
                          (try clear hi)
                          refine hK.out _ _ ⟨(blk_cell BK328.out 0).trans rfl, (blk_cell BK328.out 1).trans rfl, (blk_cell BK328.out 2).trans rfl⟩ (fun hHeld => ?_)
                          clear hK K
                          refine norm_ (a' := ?_) ?_ ?_
                          rotate_left
                          · show Act.put _ (some 19) _ = _
                            simp only [Act.put, List.setIfInBounds_toArray, List.set_cons_zero, List.set_cons_succ, i64_w, i32_w]
                            rfl
                          refine pure_ (i := 3) (N := some 16) (v := ?_) (a' := ?_) #[true, true, true, true, false, false, true, false, false] rfl rfl (any_of HT_.out (by kernel_rfl)) (fun _ _ _ h => h) (Or.inl ⟨by rfl, ?_⟩) ?_ ?_
                          rotate_left
                          · intro w'
                            go_simp
                            with_reducible rfl
                          rotate_left
                          · simp only [Act.put, List.setIfInBounds_toArray, List.set_cons_zero, List.set_cons_succ, i64_w, i32_w]
                            rfl
                          refine pure_ (i := 4) (N := some 20) (v := ?_) (a' := ?_) #[true, true, true, true, true, false, true, false, false] rfl rfl (any_of HT_.out (by kernel_rfl)) (fun _ _ _ h => h) (Or.inl ⟨by rfl, ?_⟩) ?_ ?_
                          rotate_left
                          · intro w'
                            go_simp
                            with_reducible rfl
                          rotate_left
                          · simp only [Act.put, List.setIfInBounds_toArray, List.set_cons_zero, List.set_cons_succ, i64_w, i32_w]
                            rfl
                          refine pure_ (i := 5) (N := some 21) (v := ?_) (a' := ?_) #[true, true, true, true, true, true, true, false, false] rfl rfl (any_of HT_.out (by kernel_rfl)) (fun _ _ _ h => h) (Or.inl ⟨by rfl, ?_⟩) ?_ ?_
                          rotate_left
                          · intro w'
                            go_simp
                            with_reducible rfl
                          rotate_left
                          · simp only [Act.put, List.setIfInBounds_toArray, List.set_cons_zero, List.set_cons_succ, i64_w, i32_w]
                            rfl
                          exact norm_ (by simp only [putAll, Act.put, List.setIfInBounds_toArray, List.set_cons_zero, List.set_cons_succ]) (hCont (gb336) _ ⟨hHeld, (by (with_reducible repeat (first | refine blk_drewN ?_ _ | refine blk_drew ?_ | refine blk_alloc ?_ _)); exact BK328.out), (by (with_reducible repeat (first | refine blk_drewN ?_ _ | refine blk_drew ?_ | refine blk_alloc ?_ _)); exact BK336.out), GW336.out, GE336.out, NB328_336.out, NB336_328.out, (by repeat (first | (with_reducible first | exact HB.out | apply below_alloc | apply pw_below_drewN | apply below_drew1 | refine below_set ?_ GE328.out | refine below_set ?_ GE336.out) | exact HB.out))⟩)
                      · skip
                        refine box_step ?hg (N := 4) ?hd (cs := #[.int .i64 0, .int .i64 0, .string (⟨#[]⟩ : ByteArray)]) (t := 23) ?hr ?_; (case hd => rfl); (case hg => rfl); (case hr => first | (go_simp; done) | (go_simp; rfl))
                        intro gb336 hg w26 hbox hb
                        have n0_ := Aside0.mk (blk_below (g := gb328) (o := .cells #[.int .i64 t325, .int .i64 t326, .string t327] 23 (0, 0)) (by (with_reducible repeat (first | refine blk_drewN ?_ _ | refine blk_drew ?_ | refine blk_alloc ?_ _)); exact BK328.out) hb)
                        have n1_ := Aside0.mk (below_step (by repeat (first | (with_reducible first | exact HB.out | apply below_alloc | apply pw_below_drewN | apply below_drew1 | refine below_set ?_ GE328.out) | exact HB.out)) hb)
                        have n2_ := Aside0.mk (hbox)
                        have n3_ := Aside0.mk ((by rw [hg]; exact (below_size (by repeat (first | (with_reducible first | exact HB.out | apply below_alloc | apply pw_below_drewN | apply below_drew1 | refine below_set ?_ GE328.out) | exact HB.out))) : w.heap.size ≤ gb336))
                        have n4_ := Aside0.mk ((by rw [hg]; exact (below_size (by repeat (first | (with_reducible first | exact HB.out | apply below_alloc | apply pw_below_drewN | apply below_drew1 | refine below_set ?_ GE328.out) | exact HB.out))) : w.heap.size ≤ gb336))
                        have n5_ := Aside0.mk ((by rw [hg]; exact Nat.ne_of_lt (blk_lt (g := gb328) (o := .cells #[.int .i64 t325, .int .i64 t326, .string t327] 23 (0, 0)) (by (with_reducible repeat (first | refine blk_drewN ?_ _ | refine blk_drew ?_ | refine blk_alloc ?_ _)); exact BK328.out)) : gb328 ≠ gb336))
                        have n6_ := Aside0.mk ((by rw [hg]; exact Nat.ne_of_gt (blk_lt (g := gb328) (o := .cells #[.int .i64 t325, .int .i64 t326, .string t327] 23 (0, 0)) (by (with_reducible repeat (first | refine blk_drewN ?_ _ | refine blk_drew ?_ | refine blk_alloc ?_ _)); exact BK328.out)) : gb336 ≠ gb328))
                        clear BK328
                        clear HB
                        have BK328 := n0_
                        have HB := n1_
                        have BK336 := n2_
                        have GW336 := n3_
                        have GE336 := n4_
                        have NB328_336 := n5_
                        have NB336_328 := n6_
                        clear n0_ n1_ n2_ n3_ n4_ n5_ n6_
                        clear hb hbox hg
                        refine hK.out _ _ ⟨(blk_cell BK328.out 0).trans rfl, (blk_cell BK328.out 1).trans rfl, (blk_cell BK328.out 2).trans rfl⟩ (fun hHeld => ?_)
                        clear hK K
                        refine norm_ (a' := ?_) ?_ ?_
                        rotate_left
                        · show Act.put _ (some 4) _ = _
                          simp only [Act.put, List.setIfInBounds_toArray, List.set_cons_zero, List.set_cons_succ, i64_w, i32_w]
                          rfl
                        refine one_ (i := 1) (N := some 18) #[true, true, false, false, false, false, true, false, false] rfl rfl (one_of HT_.out (by kernel_rfl)) (by decide) (fun K hK => ?_)
                        refine goes_ Try.func7 (by kernel_rfl) rfl #[.int .i64 10000] (by rfl) rfl rfl (by (try simp only [List.map_toArray, List.map_cons, List.map_nil]); first | done | rfl | (simp only [List.length_drop, List.length_take]; rfl)) ?_
                        with_reducible refine (marqueelaw02_dec.calls 10000 t329 t330 t331 _ A3.out).mono ?_
                        rintro e w27 ⟨rfl, hb⟩
                        refine ⟨_, rfl, ?_⟩
                        have n0_ := Aside0.mk (blk_below (g := gb328) (o := .cells #[.int .i64 t325, .int .i64 t326, .string t327] 23 (0, 0)) (by (with_reducible repeat (first | refine blk_drewN ?_ _ | refine blk_drew ?_ | refine blk_alloc ?_ _)); exact BK328.out) hb)
                        have n1_ := Aside0.mk (blk_below (g := gb336) (o := .cells #[.int .i64 0, .int .i64 0, .string (⟨#[]⟩ : ByteArray)] 23 (0, 0)) (by (with_reducible repeat (first | refine blk_drewN ?_ _ | refine blk_drew ?_ | refine blk_alloc ?_ _)); exact BK336.out) hb)
                        have n2_ := Aside0.mk (below_step (by repeat (first | (with_reducible first | exact HB.out | apply below_alloc | apply pw_below_drewN | apply below_drew1 | refine below_set ?_ GE328.out | refine below_set ?_ GE336.out) | exact HB.out)) hb)
                        clear BK328
                        clear BK336
                        clear HB
                        have BK328 := n0_
                        have BK336 := n1_
                        have HB := n2_
                        clear n0_ n1_ n2_
                        (try clear hb)
                        (try clear hb2)
                        (try clear hk)
                        (try clear hi)
                        refine hK.out _ _ ⟨(blk_cell BK328.out 0).trans rfl, (blk_cell BK328.out 1).trans rfl, (blk_cell BK328.out 2).trans rfl⟩ (fun hHeld => ?_)
                        clear hK K
                        refine norm_ (a' := ?_) ?_ ?_
                        rotate_left
                        · show Act.put _ (some 18) _ = _
                          simp only [Act.put, List.setIfInBounds_toArray, List.set_cons_zero, List.set_cons_succ, i64_w, i32_w]
                          rfl
                        refine one_ (i := 2) (N := some 19) #[true, true, true, false, false, false, true, false, false] rfl rfl (one_of HT_.out (by kernel_rfl)) (by decide) (fun K hK => ?_)
                        refine goes_ Try.func8 (by kernel_rfl) rfl #[.agg #[.int .i64 t325, .int .i64 t326, .string t327], .agg #[.int .i64 t329, .int .i64 t330, .string t331]] (by rfl) rfl rfl (by (try simp only [List.map_toArray, List.map_cons, List.map_nil]); first | done | rfl | (simp only [List.length_drop, List.length_take]; rfl)) ?_
                        with_reducible refine (arith_Mul.calls k t325 t326 t327 t329 t330 t331 t332 t333 t334 t335 _ A4.out).mono ?_
                        rintro e w28 ⟨rfl, hb⟩
                        refine ⟨_, rfl, ?_⟩
                        have n0_ := Aside0.mk (blk_below (g := gb328) (o := .cells #[.int .i64 t325, .int .i64 t326, .string t327] 23 (0, 0)) (by (with_reducible repeat (first | refine blk_drewN ?_ _ | refine blk_drew ?_ | refine blk_alloc ?_ _)); exact BK328.out) hb)
                        have n1_ := Aside0.mk (blk_below (g := gb336) (o := .cells #[.int .i64 0, .int .i64 0, .string (⟨#[]⟩ : ByteArray)] 23 (0, 0)) (by (with_reducible repeat (first | refine blk_drewN ?_ _ | refine blk_drew ?_ | refine blk_alloc ?_ _)); exact BK336.out) hb)
                        have n2_ := Aside0.mk (below_step (by repeat (first | (with_reducible first | exact HB.out | apply below_alloc | apply pw_below_drewN | apply below_drew1 | refine below_set ?_ GE328.out | refine below_set ?_ GE336.out) | exact HB.out)) hb)
                        clear BK328
                        clear BK336
                        clear HB
                        have BK328 := n0_
                        have BK336 := n1_
                        have HB := n2_
                        clear n0_ n1_ n2_
                        (try clear hb)
                        (try clear hb2)
                        (try clear hk)
                        (try clear hi)
                        refine hK.out _ _ ⟨(blk_cell BK328.out 0).trans rfl, (blk_cell BK328.out 1).trans rfl, (blk_cell BK328.out 2).trans rfl⟩ (fun hHeld => ?_)
                        clear hK K
                        refine norm_ (a' := ?_) ?_ ?_
                        rotate_left
                        · show Act.put _ (some 19) _ = _
                          simp only [Act.put, List.setIfInBounds_toArray, List.set_cons_zero, List.set_cons_succ, i64_w, i32_w]
                          rfl
                        refine pure_ (i := 3) (N := some 16) (v := ?_) (a' := ?_) #[true, true, true, true, false, false, true, false, false] rfl rfl (any_of HT_.out (by kernel_rfl)) (fun _ _ _ h => h) (Or.inl ⟨by rfl, ?_⟩) ?_ ?_
                        rotate_left
                        · intro w'
                          go_simp
                          with_reducible rfl
                        rotate_left
                        · simp only [Act.put, List.setIfInBounds_toArray, List.set_cons_zero, List.set_cons_succ, i64_w, i32_w]
                          rfl
                        refine pure_ (i := 4) (N := some 20) (v := ?_) (a' := ?_) #[true, true, true, true, true, false, true, false, false] rfl rfl (any_of HT_.out (by kernel_rfl)) (fun _ _ _ h => h) (Or.inl ⟨by rfl, ?_⟩) ?_ ?_
                        rotate_left
                        · intro w'
                          go_simp
                          with_reducible rfl
                        rotate_left
                        · simp only [Act.put, List.setIfInBounds_toArray, List.set_cons_zero, List.set_cons_succ, i64_w, i32_w]
                          rfl
                        refine pure_ (i := 5) (N := some 21) (v := ?_) (a' := ?_) #[true, true, true, true, true, true, true, false, false] rfl rfl (any_of HT_.out (by kernel_rfl)) (fun _ _ _ h => h) (Or.inl ⟨by rfl, ?_⟩) ?_ ?_
                        rotate_left
                        · intro w'
                          go_simp
                          with_reducible rfl
                        rotate_left
                        · simp only [Act.put, List.setIfInBounds_toArray, List.set_cons_zero, List.set_cons_succ, i64_w, i32_w]
                          rfl
                        exact norm_ (by simp only [putAll, Act.put, List.setIfInBounds_toArray, List.set_cons_zero, List.set_cons_succ]) (hCont (gb336) _ ⟨hHeld, (by (with_reducible repeat (first | refine blk_drewN ?_ _ | refine blk_drew ?_ | refine blk_alloc ?_ _)); exact BK328.out), (by (with_reducible repeat (first | refine blk_drewN ?_ _ | refine blk_drew ?_ | refine blk_alloc ?_ _)); exact BK336.out), GW336.out, GE336.out, NB328_336.out, NB336_328.out, (by repeat (first | (with_reducible first | exact HB.out | apply below_alloc | apply pw_below_drewN | apply below_drew1 | refine below_set ?_ GE328.out | refine below_set ?_ GE336.out) | exact HB.out))⟩)
                    rintro gb336 w29 ⟨hS_, h0_, h1_, h2_, h3_, h4_, h5_, h6_⟩
                    have n0_ : Aside0 (w29.heap[gb328]? = some (.cells #[.int .i64 t325, .int .i64 t326, .string t327] 23 (0, 0))) := ⟨h0_⟩
                    have n1_ : Aside0 (w29.heap[gb336]? = some (.cells #[.int .i64 0, .int .i64 0, .string (⟨#[]⟩ : ByteArray)] 23 (0, 0))) := ⟨h1_⟩
                    have n2_ : Aside0 (w.heap.size ≤ gb336) := ⟨h2_⟩
                    have n3_ : Aside0 (w.heap.size ≤ gb336) := ⟨h3_⟩
                    have n4_ : Aside0 (gb328 ≠ gb336) := ⟨h4_⟩
                    have n5_ : Aside0 (gb336 ≠ gb328) := ⟨h5_⟩
                    have n6_ : Aside0 (Below w.heap.size w w29) := ⟨h6_⟩
                    clear BK328
                    clear HB
                    clear h0_ h1_ h2_ h3_ h4_ h5_ h6_
                    have BK328 := n0_
                    have BK336 := n1_
                    have GW336 := n2_
                    have GE336 := n3_
                    have NB328_336 := n4_
                    have NB336_328 := n5_
                    have HB := n6_
                    clear n0_ n1_ n2_ n3_ n4_ n5_ n6_
                    have hHeld : w29.cell? ⟨gb328, 0, none⟩ = some (.int .i64 t325) ∧ w29.cell? ⟨gb328, 1, none⟩ = some (.int .i64 t326) ∧ w29.cell? ⟨gb328, 2, none⟩ = some (.string t327) := hS_
                    refine norm_ (a' := ?_) ?_ ?_
                    rotate_left
                    · simp only [putAll, Act.put, List.setIfInBounds_toArray, List.set_cons_zero, List.set_cons_succ]
                      rfl
                    refine one_ (i := 7) (N := none) #[true, true, true, true, true, true, true, true, false] rfl rfl (one_of HT_.out (by kernel_rfl)) (by decide) (fun K hK => ?_)
                    have hs30 : w29.cell? ⟨gb336, 0, none⟩ = some (.int .i64 0) := (blk_cell BK336.out 0).trans rfl
                    have hfs30 := blk_frozen BK336.out 0
                    have hns30_0 := NB328_336.out
                    have hms30_0 := NB336_328.out
                    have hs31 : w29.cell? ⟨gb336, 1, none⟩ = some (.int .i64 0) := (blk_cell BK336.out 1).trans rfl
                    have hfs31 := blk_frozen BK336.out 1
                    have hns31_0 := NB328_336.out
                    have hms31_0 := NB336_328.out
                    have hs32 : w29.cell? ⟨gb336, 2, none⟩ = some (.string (⟨#[]⟩ : ByteArray)) := (blk_cell BK336.out 2).trans rfl
                    have hfs32 := blk_frozen BK336.out 2
                    have hns32_0 := NB328_336.out
                    have hms32_0 := NB336_328.out
                    refine skip_ (w1 := ?_) (by rfl) rfl ?_ ?_
                    rotate_left
                    · go_simp
                      rfl
                    refine hK.out _ _ ⟨((cell_far (p := ⟨gb336, _, none⟩) NB328_336.out _).trans (((cell_far (p := ⟨gb336, _, none⟩) NB328_336.out _).trans (((cell_far (p := ⟨gb336, _, none⟩) NB328_336.out _).trans (hHeld.1)))))), ((cell_far (p := ⟨gb336, _, none⟩) NB328_336.out _).trans (((cell_far (p := ⟨gb336, _, none⟩) NB328_336.out _).trans (((cell_far (p := ⟨gb336, _, none⟩) NB328_336.out _).trans (hHeld.2.1)))))), ((cell_far (p := ⟨gb336, _, none⟩) NB328_336.out _).trans (((cell_far (p := ⟨gb336, _, none⟩) NB328_336.out _).trans (((cell_far (p := ⟨gb336, _, none⟩) NB328_336.out _).trans (hHeld.2.2))))))⟩ (fun hHeld => ?_)
                    clear hK K
                    refine pure_ (i := 8) (N := some 5) (v := ?_) (a' := ?_) #[true, true, true, true, true, true, true, true, true] rfl rfl (any_of HT_.out (by kernel_rfl)) (fun _ _ _ h => h) (Or.inl ⟨by rfl, ?_⟩) ?_ ?_
                    rotate_left
                    · intro w'
                      go_simp
                      with_reducible rfl
                    rotate_left
                    · simp only [Act.put, List.setIfInBounds_toArray, List.set_cons_zero, List.set_cons_succ, i64_w, i32_w]
                      rfl
                    refine done_ (done_of HT_.out (by kernel_rfl)) ?_
                    try go_wp2
                    have n0_ : Aside0 ((((w29.setCell ⟨gb336, 0, none⟩ (.int .i64 t332)).setCell ⟨gb336, 1, none⟩ (.int .i64 t333)).setCell ⟨gb336, 2, none⟩ (.string t334)).heap[gb328]? = some (.cells #[.int .i64 t325, .int .i64 t326, .string t327] 23 (0, 0))) := ⟨by (with_reducible repeat (first | refine blk_drewN ?_ _ | refine blk_drew ?_ | refine blk_alloc ?_ _)); refine blk_far ?_ NB328_336.out _; (with_reducible repeat (first | refine blk_drewN ?_ _ | refine blk_drew ?_ | refine blk_alloc ?_ _)); refine blk_far ?_ NB328_336.out _; (with_reducible repeat (first | refine blk_drewN ?_ _ | refine blk_drew ?_ | refine blk_alloc ?_ _)); refine blk_far ?_ NB328_336.out _; (with_reducible repeat (first | refine blk_drewN ?_ _ | refine blk_drew ?_ | refine blk_alloc ?_ _)); exact BK328.out⟩
                    have n1_ : Aside0 ((((w29.setCell ⟨gb336, 0, none⟩ (.int .i64 t332)).setCell ⟨gb336, 1, none⟩ (.int .i64 t333)).setCell ⟨gb336, 2, none⟩ (.string t334)).heap[gb336]? = some (.cells #[.int .i64 t332, .int .i64 t333, .string t334] 23 (0, 0))) := ⟨by (with_reducible repeat (first | refine blk_drewN ?_ _ | refine blk_drew ?_ | refine blk_alloc ?_ _)); refine blk_put (cs := #[.int .i64 t332, .int .i64 t333, .string (⟨#[]⟩ : ByteArray)]) ?_ 2 _ rfl; (with_reducible repeat (first | refine blk_drewN ?_ _ | refine blk_drew ?_ | refine blk_alloc ?_ _)); refine blk_put (cs := #[.int .i64 t332, .int .i64 0, .string (⟨#[]⟩ : ByteArray)]) ?_ 1 _ rfl; (with_reducible repeat (first | refine blk_drewN ?_ _ | refine blk_drew ?_ | refine blk_alloc ?_ _)); refine blk_put (cs := #[.int .i64 0, .int .i64 0, .string (⟨#[]⟩ : ByteArray)]) ?_ 0 _ rfl; (with_reducible repeat (first | refine blk_drewN ?_ _ | refine blk_drew ?_ | refine blk_alloc ?_ _)); exact BK336.out⟩
                    have n2_ : Aside0 (Below w.heap.size w (((w29.setCell ⟨gb336, 0, none⟩ (.int .i64 t332)).setCell ⟨gb336, 1, none⟩ (.int .i64 t333)).setCell ⟨gb336, 2, none⟩ (.string t334))) := ⟨by repeat (first | (with_reducible first | exact HB.out | apply below_alloc | apply pw_below_drewN | apply below_drew1 | refine below_set ?_ GE328.out | refine below_set ?_ GE336.out) | exact HB.out)⟩
                    (try clear BK328)
                    (try clear BK336)
                    (try clear HB)
                    generalize (((w29.setCell ⟨gb336, 0, none⟩ (.int .i64 t332)).setCell ⟨gb336, 1, none⟩ (.int .i64 t333)).setCell ⟨gb336, 2, none⟩ (.string t334)) = w33 at n0_ n1_ n2_ ⊢
                    have BK328 := n0_
                    have BK336 := n1_
                    have HB := n2_
                    clear n0_ n1_ n2_
                    have n0_ := Aside0.mk (blk_drew BK328.out)
                    have n1_ := Aside0.mk (blk_drew BK336.out)
                    have n2_ := Aside0.mk (below_drew1 HB.out)
                    clear BK328
                    clear BK336
                    clear HB
                    have BK328 := n0_
                    have BK336 := n1_
                    have HB := n2_
                    clear n0_ n1_ n2_
                    refine start_ (n := 9) (S := fun w' => w'.cell? ⟨gb328, 0, none⟩ = some (.int .i64 t325) ∧ w'.cell? ⟨gb328, 1, none⟩ = some (.int .i64 t326) ∧ w'.cell? ⟨gb328, 2, none⟩ = some (.string t327)) (ds := []) #[false, false, false, false, false, false, false, false, false] (by kernel_rfl) rfl rfl ⟨(blk_cell BK328.out 0).trans rfl, (blk_cell BK328.out 1).trans rfl, (blk_cell BK328.out 2).trans rfl⟩ (fun hHeld => ?_); refine with_tabW marqueelaw02_ArithWide.tab3 marqueelaw02_ArithWide.bits3 (fun HT_ HW_ => ?_)
                    generalize w33.drew = w34 at BK328 BK336 HB hHeld ⊢
                    refine take_ (i := 0) (N := some 23) (v := ?_) (a' := ?_) #[true, false, false, false, false, false, false, false, false] rfl rfl (take_ofW HT_.out HW_.out (by kernel_rfl)) (fun _ _ _ h => h) (Or.inl ⟨by rfl, ?_⟩) hHeld ?_ ?_
                    rotate_left
                    · rintro w' ⟨s0, s1, s2⟩
                      go_simp
                      with_reducible rfl
                    rotate_left
                    · simp only [Act.put, List.setIfInBounds_toArray, List.set_cons_zero, List.set_cons_succ, i64_w, i32_w]
                      rfl
                    refine join_ (σ := Nat) 2 #[true, true, true, true, true, true, true, false, false] (fun s_ => [(24, .agg #[.int .i64 t337, .int .i64 t338, .string t339]), (25, .tuple #[.agg #[.int .i64 t340, .int .i64 t341, .string t342], .int .i64 t343]), (6, .pointer (some ⟨s_, 0, none⟩)), (22, .tuple #[.agg #[.int .i64 t340, .int .i64 t341, .string t342], .int .i64 t343]), (26, .agg #[.int .i64 t340, .int .i64 t341, .string t342]), (27, .int .i64 t343)]) (fun s_ w' => (w'.cell? ⟨gb328, 0, none⟩ = some (.int .i64 t325) ∧ w'.cell? ⟨gb328, 1, none⟩ = some (.int .i64 t326) ∧ w'.cell? ⟨gb328, 2, none⟩ = some (.string t327)) ∧ (w'.heap[gb328]? = some (.cells #[.int .i64 t325, .int .i64 t326, .string t327] 23 (0, 0))) ∧ (w'.heap[gb336]? = some (.cells #[.int .i64 t332, .int .i64 t333, .string t334] 23 (0, 0))) ∧ (w'.heap[s_]? = some (.cells #[.int .i64 0, .int .i64 0, .string (⟨#[]⟩ : ByteArray)] 23 (0, 0))) ∧ (w.heap.size ≤ s_) ∧ (w.heap.size ≤ s_) ∧ (gb328 ≠ s_) ∧ (s_ ≠ gb328) ∧ (gb336 ≠ s_) ∧ (s_ ≠ gb336) ∧ (Below w.heap.size w w')) ?_ ?_
                    rotate_left
                    · intro hCont
                      refine two_ (i := 1) (j := 6) (Ni := some 24) (Nj := some 6) #[true, true, false, false, false, false, false, false, false] #[true, false, false, false, false, false, true, false, false] rfl rfl rfl rfl (two_of HT_.out (by kernel_rfl)) (by decide) (by decide) (fun K hK => ?_) (fun K hK => ?_)
                      · skip
                        refine goes_ Try.func7 (by kernel_rfl) rfl #[.int .i64 10000] (by rfl) rfl rfl (by (try simp only [List.map_toArray, List.map_cons, List.map_nil]); first | done | rfl | (simp only [List.length_drop, List.length_take]; rfl)) ?_
                        with_reducible refine (marqueelaw02_dec.calls 10000 t337 t338 t339 _ A5.out).mono ?_
                        rintro e w35 ⟨rfl, hb⟩
                        refine ⟨_, rfl, ?_⟩
                        have n0_ := Aside0.mk (blk_below (g := gb328) (o := .cells #[.int .i64 t325, .int .i64 t326, .string t327] 23 (0, 0)) (by (with_reducible repeat (first | refine blk_drewN ?_ _ | refine blk_drew ?_ | refine blk_alloc ?_ _)); exact BK328.out) hb)
                        have n1_ := Aside0.mk (blk_below (g := gb336) (o := .cells #[.int .i64 t332, .int .i64 t333, .string t334] 23 (0, 0)) (by (with_reducible repeat (first | refine blk_drewN ?_ _ | refine blk_drew ?_ | refine blk_alloc ?_ _)); exact BK336.out) hb)
                        have n2_ := Aside0.mk (below_step (by repeat (first | (with_reducible first | exact HB.out | apply below_alloc | apply pw_below_drewN | apply below_drew1 | refine below_set ?_ GE328.out | refine below_set ?_ GE336.out) | exact HB.out)) hb)
                        clear BK328
                        clear BK336
                        clear HB
                        have BK328 := n0_
                        have BK336 := n1_
                        have HB := n2_
                        clear n0_ n1_ n2_
                        (try clear hb)
                        (try clear hb2)
                        (try clear hk)
                        (try clear hi)
                        refine hK.out _ _ ⟨(blk_cell BK328.out 0).trans rfl, (blk_cell BK328.out 1).trans rfl, (blk_cell BK328.out 2).trans rfl⟩ (fun hHeld => ?_)
                        clear hK K
                        refine norm_ (a' := ?_) ?_ ?_
                        rotate_left
                        · show Act.put _ (some 24) _ = _
                          simp only [Act.put, List.setIfInBounds_toArray, List.set_cons_zero, List.set_cons_succ, i64_w, i32_w]
                          rfl
                        refine two_ (i := 2) (j := 6) (Ni := some 25) (Nj := some 6) #[true, true, true, false, false, false, false, false, false] #[true, true, false, false, false, false, true, false, false] rfl rfl rfl rfl (two_of HT_.out (by kernel_rfl)) (by decide) (by decide) (fun K hK => ?_) (fun K hK => ?_)
                        · skip
                          refine goes_ Try.func9 (by kernel_rfl) rfl #[.agg #[.int .i64 t325, .int .i64 t326, .string t327], .agg #[.int .i64 t337, .int .i64 t338, .string t339]] (by rfl) rfl rfl (by (try simp only [List.map_toArray, List.map_cons, List.map_nil]); first | done | rfl | (simp only [List.length_drop, List.length_take]; rfl)) ?_
                          with_reducible refine (arith_Div.calls k t325 t326 t327 t337 t338 t339 t340 t341 t342 t343 _ A6.out).mono ?_
                          rintro e w36 ⟨rfl, hb⟩
                          refine ⟨_, rfl, ?_⟩
                          have n0_ := Aside0.mk (blk_below (g := gb328) (o := .cells #[.int .i64 t325, .int .i64 t326, .string t327] 23 (0, 0)) (by (with_reducible repeat (first | refine blk_drewN ?_ _ | refine blk_drew ?_ | refine blk_alloc ?_ _)); exact BK328.out) hb)
                          have n1_ := Aside0.mk (blk_below (g := gb336) (o := .cells #[.int .i64 t332, .int .i64 t333, .string t334] 23 (0, 0)) (by (with_reducible repeat (first | refine blk_drewN ?_ _ | refine blk_drew ?_ | refine blk_alloc ?_ _)); exact BK336.out) hb)
                          have n2_ := Aside0.mk (below_step (by repeat (first | (with_reducible first | exact HB.out | apply below_alloc | apply pw_below_drewN | apply below_drew1 | refine below_set ?_ GE328.out | refine below_set ?_ GE336.out) | exact HB.out)) hb)
                          clear BK328
                          clear BK336
                          clear HB
                          have BK328 := n0_
                          have BK336 := n1_
                          have HB := n2_
                          clear n0_ n1_ n2_
                          (try clear hb)
                          (try clear hb2)
                          (try clear hk)
                          (try clear hi)
                          refine hK.out _ _ ⟨(blk_cell BK328.out 0).trans rfl, (blk_cell BK328.out 1).trans rfl, (blk_cell BK328.out 2).trans rfl⟩ (fun hHeld => ?_)
                          clear hK K
                          refine norm_ (a' := ?_) ?_ ?_
                          rotate_left
                          · show Act.put _ (some 25) _ = _
                            simp only [Act.put, List.setIfInBounds_toArray, List.set_cons_zero, List.set_cons_succ, i64_w, i32_w]
                            rfl
                          refine pure_ (i := 3) (N := some 22) (v := ?_) (a' := ?_) #[true, true, true, true, false, false, false, false, false] rfl rfl (any_of HT_.out (by kernel_rfl)) (fun _ _ _ h => h) (Or.inl ⟨by rfl, ?_⟩) ?_ ?_
                          rotate_left
                          · intro w'
                            go_simp
                            with_reducible rfl
                          rotate_left
                          · simp only [Act.put, List.setIfInBounds_toArray, List.set_cons_zero, List.set_cons_succ, i64_w, i32_w]
                            rfl
                          refine pure_ (i := 4) (N := some 26) (v := ?_) (a' := ?_) #[true, true, true, true, true, false, false, false, false] rfl rfl (any_of HT_.out (by kernel_rfl)) (fun _ _ _ h => h) (Or.inl ⟨by rfl, ?_⟩) ?_ ?_
                          rotate_left
                          · intro w'
                            go_simp
                            with_reducible rfl
                          rotate_left
                          · simp only [Act.put, List.setIfInBounds_toArray, List.set_cons_zero, List.set_cons_succ, i64_w, i32_w]
                            rfl
                          refine pure_ (i := 5) (N := some 27) (v := ?_) (a' := ?_) #[true, true, true, true, true, true, false, false, false] rfl rfl (any_of HT_.out (by kernel_rfl)) (fun _ _ _ h => h) (Or.inl ⟨by rfl, ?_⟩) ?_ ?_
                          rotate_left
                          · intro w'
                            go_simp
                            with_reducible rfl
                          rotate_left
                          · simp only [Act.put, List.setIfInBounds_toArray, List.set_cons_zero, List.set_cons_succ, i64_w, i32_w]
                            rfl
                          refine one_ (i := 6) (N := some 6) #[true, true, true, true, true, true, true, false, false] rfl rfl (one_of HT_.out (by kernel_rfl)) (by decide) (fun K hK => ?_)
                          refine box_step ?hg (N := 6) ?hd (cs := #[.int .i64 0, .int .i64 0, .string (⟨#[]⟩ : ByteArray)]) (t := 23) ?hr ?_; (case hd => rfl); (case hg => rfl); (case hr => first | (go_simp; done) | (go_simp; rfl))
                          intro gb344 hg w37 hbox hb
                          have n0_ := Aside0.mk (blk_below (g := gb328) (o := .cells #[.int .i64 t325, .int .i64 t326, .string t327] 23 (0, 0)) (by (with_reducible repeat (first | refine blk_drewN ?_ _ | refine blk_drew ?_ | refine blk_alloc ?_ _)); exact BK328.out) hb)
                          have n1_ := Aside0.mk (blk_below (g := gb336) (o := .cells #[.int .i64 t332, .int .i64 t333, .string t334] 23 (0, 0)) (by (with_reducible repeat (first | refine blk_drewN ?_ _ | refine blk_drew ?_ | refine blk_alloc ?_ _)); exact BK336.out) hb)
                          have n2_ := Aside0.mk (below_step (by repeat (first | (with_reducible first | exact HB.out | apply below_alloc | apply pw_below_drewN | apply below_drew1 | refine below_set ?_ GE328.out | refine below_set ?_ GE336.out) | exact HB.out)) hb)
                          have n3_ := Aside0.mk (hbox)
                          have n4_ := Aside0.mk ((by rw [hg]; exact (below_size (by repeat (first | (with_reducible first | exact HB.out | apply below_alloc | apply pw_below_drewN | apply below_drew1 | refine below_set ?_ GE328.out | refine below_set ?_ GE336.out) | exact HB.out))) : w.heap.size ≤ gb344))
                          have n5_ := Aside0.mk ((by rw [hg]; exact (below_size (by repeat (first | (with_reducible first | exact HB.out | apply below_alloc | apply pw_below_drewN | apply below_drew1 | refine below_set ?_ GE328.out | refine below_set ?_ GE336.out) | exact HB.out))) : w.heap.size ≤ gb344))
                          have n6_ := Aside0.mk ((by rw [hg]; exact Nat.ne_of_lt (blk_lt (g := gb328) (o := .cells #[.int .i64 t325, .int .i64 t326, .string t327] 23 (0, 0)) (by (with_reducible repeat (first | refine blk_drewN ?_ _ | refine blk_drew ?_ | refine blk_alloc ?_ _)); exact BK328.out)) : gb328 ≠ gb344))
                          have n7_ := Aside0.mk ((by rw [hg]; exact Nat.ne_of_gt (blk_lt (g := gb328) (o := .cells #[.int .i64 t325, .int .i64 t326, .string t327] 23 (0, 0)) (by (with_reducible repeat (first | refine blk_drewN ?_ _ | refine blk_drew ?_ | refine blk_alloc ?_ _)); exact BK328.out)) : gb344 ≠ gb328))
                          have n8_ := Aside0.mk ((by rw [hg]; exact Nat.ne_of_lt (blk_lt (g := gb336) (o := .cells #[.int .i64 t332, .int .i64 t333, .string t334] 23 (0, 0)) (by (with_reducible repeat (first | refine blk_drewN ?_ _ | refine blk_drew ?_ | refine blk_alloc ?_ _)); exact BK336.out)) : gb336 ≠ gb344))
                          have n9_ := Aside0.mk ((by rw [hg]; exact Nat.ne_of_gt (blk_lt (g := gb336) (o := .cells #[.int .i64 t332, .int .i64 t333, .string t334] 23 (0, 0)) (by (with_reducible repeat (first | refine blk_drewN ?_ _ | refine blk_drew ?_ | refine blk_alloc ?_ _)); exact BK336.out)) : gb344 ≠ gb336))
                          clear BK328
                          clear BK336
                          clear HB
                          have BK328 := n0_
                          have BK336 := n1_
                          have HB := n2_
                          have BK344 := n3_
                          have GW344 := n4_
                          have GE344 := n5_
                          have NB328_344 := n6_
                          have NB344_328 := n7_
                          have NB336_344 := n8_
                          have NB344_336 := n9_
                          clear n0_ n1_ n2_ n3_ n4_ n5_ n6_ n7_ n8_ n9_
                          clear hb hbox hg
                          refine hK.out _ _ ⟨(blk_cell BK328.out 0).trans rfl, (blk_cell BK328.out 1).trans rfl, (blk_cell BK328.out 2).trans rfl⟩ (fun hHeld => ?_)
                          clear hK K
                          refine norm_ (a' := ?_) ?_ ?_
                          rotate_left
                          · show Act.put _ (some 6) _ = _
                            simp only [Act.put, List.setIfInBounds_toArray, List.set_cons_zero, List.set_cons_succ, i64_w, i32_w]
                            rfl
                          exact norm_ (by simp only [putAll, Act.put, List.setIfInBounds_toArray, List.set_cons_zero, List.set_cons_succ]) (hCont (gb344) _ ⟨hHeld, (by (with_reducible repeat (first | refine blk_drewN ?_ _ | refine blk_drew ?_ | refine blk_alloc ?_ _)); exact BK328.out), (by (with_reducible repeat (first | refine blk_drewN ?_ _ | refine blk_drew ?_ | refine blk_alloc ?_ _)); exact BK336.out), (by (with_reducible repeat (first | refine blk_drewN ?_ _ | refine blk_drew ?_ | refine blk_alloc ?_ _)); exact BK344.out), GW344.out, GE344.out, NB328_344.out, NB344_328.out, NB336_344.out, NB344_336.out, (by repeat (first | (with_reducible first | exact HB.out | apply below_alloc | apply pw_below_drewN | apply below_drew1 | refine below_set ?_ GE328.out | refine below_set ?_ GE336.out | refine below_set ?_ GE344.out) | exact HB.out))⟩)
                        · skip
                          refine box_step ?hg (N := 6) ?hd (cs := #[.int .i64 0, .int .i64 0, .string (⟨#[]⟩ : ByteArray)]) (t := 23) ?hr ?_; (case hd => rfl); (case hg => rfl); (case hr => first | (go_simp; done) | (go_simp; rfl))
                          intro gb344 hg w36 hbox hb
                          have n0_ := Aside0.mk (blk_below (g := gb328) (o := .cells #[.int .i64 t325, .int .i64 t326, .string t327] 23 (0, 0)) (by (with_reducible repeat (first | refine blk_drewN ?_ _ | refine blk_drew ?_ | refine blk_alloc ?_ _)); exact BK328.out) hb)
                          have n1_ := Aside0.mk (blk_below (g := gb336) (o := .cells #[.int .i64 t332, .int .i64 t333, .string t334] 23 (0, 0)) (by (with_reducible repeat (first | refine blk_drewN ?_ _ | refine blk_drew ?_ | refine blk_alloc ?_ _)); exact BK336.out) hb)
                          have n2_ := Aside0.mk (below_step (by repeat (first | (with_reducible first | exact HB.out | apply below_alloc | apply pw_below_drewN | apply below_drew1 | refine below_set ?_ GE328.out | refine below_set ?_ GE336.out) | exact HB.out)) hb)
                          have n3_ := Aside0.mk (hbox)
                          have n4_ := Aside0.mk ((by rw [hg]; exact (below_size (by repeat (first | (with_reducible first | exact HB.out | apply below_alloc | apply pw_below_drewN | apply below_drew1 | refine below_set ?_ GE328.out | refine below_set ?_ GE336.out) | exact HB.out))) : w.heap.size ≤ gb344))
                          have n5_ := Aside0.mk ((by rw [hg]; exact (below_size (by repeat (first | (with_reducible first | exact HB.out | apply below_alloc | apply pw_below_drewN | apply below_drew1 | refine below_set ?_ GE328.out | refine below_set ?_ GE336.out) | exact HB.out))) : w.heap.size ≤ gb344))
                          have n6_ := Aside0.mk ((by rw [hg]; exact Nat.ne_of_lt (blk_lt (g := gb328) (o := .cells #[.int .i64 t325, .int .i64 t326, .string t327] 23 (0, 0)) (by (with_reducible repeat (first | refine blk_drewN ?_ _ | refine blk_drew ?_ | refine blk_alloc ?_ _)); exact BK328.out)) : gb328 ≠ gb344))
                          have n7_ := Aside0.mk ((by rw [hg]; exact Nat.ne_of_gt (blk_lt (g := gb328) (o := .cells #[.int .i64 t325, .int .i64 t326, .string t327] 23 (0, 0)) (by (with_reducible repeat (first | refine blk_drewN ?_ _ | refine blk_drew ?_ | refine blk_alloc ?_ _)); exact BK328.out)) : gb344 ≠ gb328))
                          have n8_ := Aside0.mk ((by rw [hg]; exact Nat.ne_of_lt (blk_lt (g := gb336) (o := .cells #[.int .i64 t332, .int .i64 t333, .string t334] 23 (0, 0)) (by (with_reducible repeat (first | refine blk_drewN ?_ _ | refine blk_drew ?_ | refine blk_alloc ?_ _)); exact BK336.out)) : gb336 ≠ gb344))
                          have n9_ := Aside0.mk ((by rw [hg]; exact Nat.ne_of_gt (blk_lt (g := gb336) (o := .cells #[.int .i64 t332, .int .i64 t333, .string t334] 23 (0, 0)) (by (with_reducible repeat (first | refine blk_drewN ?_ _ | refine blk_drew ?_ | refine blk_alloc ?_ _)); exact BK336.out)) : gb344 ≠ gb336))
                          clear BK328
                          clear BK336
                          clear HB
                          have BK328 := n0_
                          have BK336 := n1_
                          have HB := n2_
                          have BK344 := n3_
                          have GW344 := n4_
                          have GE344 := n5_
                          have NB328_344 := n6_
                          have NB344_328 := n7_
                          have NB336_344 := n8_
                          have NB344_336 := n9_
                          clear n0_ n1_ n2_ n3_ n4_ n5_ n6_ n7_ n8_ n9_
                          clear hb hbox hg
                          refine hK.out _ _ ⟨(blk_cell BK328.out 0).trans rfl, (blk_cell BK328.out 1).trans rfl, (blk_cell BK328.out 2).trans rfl⟩ (fun hHeld => ?_)
                          clear hK K
                          refine norm_ (a' := ?_) ?_ ?_
                          rotate_left
                          · show Act.put _ (some 6) _ = _
                            simp only [Act.put, List.setIfInBounds_toArray, List.set_cons_zero, List.set_cons_succ, i64_w, i32_w]
                            rfl
                          refine one_ (i := 2) (N := some 25) #[true, true, true, false, false, false, true, false, false] rfl rfl (one_of HT_.out (by kernel_rfl)) (by decide) (fun K hK => ?_)
                          refine goes_ Try.func9 (by kernel_rfl) rfl #[.agg #[.int .i64 t325, .int .i64 t326, .string t327], .agg #[.int .i64 t337, .int .i64 t338, .string t339]] (by rfl) rfl rfl (by (try simp only [List.map_toArray, List.map_cons, List.map_nil]); first | done | rfl | (simp only [List.length_drop, List.length_take]; rfl)) ?_
                          with_reducible refine (arith_Div.calls k t325 t326 t327 t337 t338 t339 t340 t341 t342 t343 _ A6.out).mono ?_
                          rintro e w37 ⟨rfl, hb⟩
                          refine ⟨_, rfl, ?_⟩
                          have n0_ := Aside0.mk (blk_below (g := gb328) (o := .cells #[.int .i64 t325, .int .i64 t326, .string t327] 23 (0, 0)) (by (with_reducible repeat (first | refine blk_drewN ?_ _ | refine blk_drew ?_ | refine blk_alloc ?_ _)); exact BK328.out) hb)
                          have n1_ := Aside0.mk (blk_below (g := gb336) (o := .cells #[.int .i64 t332, .int .i64 t333, .string t334] 23 (0, 0)) (by (with_reducible repeat (first | refine blk_drewN ?_ _ | refine blk_drew ?_ | refine blk_alloc ?_ _)); exact BK336.out) hb)
                          have n2_ := Aside0.mk (blk_below (g := gb344) (o := .cells #[.int .i64 0, .int .i64 0, .string (⟨#[]⟩ : ByteArray)] 23 (0, 0)) (by (with_reducible repeat (first | refine blk_drewN ?_ _ | refine blk_drew ?_ | refine blk_alloc ?_ _)); exact BK344.out) hb)
                          have n3_ := Aside0.mk (below_step (by repeat (first | (with_reducible first | exact HB.out | apply below_alloc | apply pw_below_drewN | apply below_drew1 | refine below_set ?_ GE328.out | refine below_set ?_ GE336.out | refine below_set ?_ GE344.out) | exact HB.out)) hb)
                          clear BK328
                          clear BK336
                          clear BK344
                          clear HB
                          have BK328 := n0_
                          have BK336 := n1_
                          have BK344 := n2_
                          have HB := n3_
                          clear n0_ n1_ n2_ n3_
                          (try clear hb)
                          (try clear hb2)
                          (try clear hk)
                          (try clear hi)
                          refine hK.out _ _ ⟨(blk_cell BK328.out 0).trans rfl, (blk_cell BK328.out 1).trans rfl, (blk_cell BK328.out 2).trans rfl⟩ (fun hHeld => ?_)
                          clear hK K
                          refine norm_ (a' := ?_) ?_ ?_
                          rotate_left
                          · show Act.put _ (some 25) _ = _
                            simp only [Act.put, List.setIfInBounds_toArray, List.set_cons_zero, List.set_cons_succ, i64_w, i32_w]
                            rfl
                          refine pure_ (i := 3) (N := some 22) (v := ?_) (a' := ?_) #[true, true, true, true, false, false, true, false, false] rfl rfl (any_of HT_.out (by kernel_rfl)) (fun _ _ _ h => h) (Or.inl ⟨by rfl, ?_⟩) ?_ ?_
                          rotate_left
                          · intro w'
                            go_simp
                            with_reducible rfl
                          rotate_left
                          · simp only [Act.put, List.setIfInBounds_toArray, List.set_cons_zero, List.set_cons_succ, i64_w, i32_w]
                            rfl
                          refine pure_ (i := 4) (N := some 26) (v := ?_) (a' := ?_) #[true, true, true, true, true, false, true, false, false] rfl rfl (any_of HT_.out (by kernel_rfl)) (fun _ _ _ h => h) (Or.inl ⟨by rfl, ?_⟩) ?_ ?_
                          rotate_left
                          · intro w'
                            go_simp
                            with_reducible rfl
                          rotate_left
                          · simp only [Act.put, List.setIfInBounds_toArray, List.set_cons_zero, List.set_cons_succ, i64_w, i32_w]
                            rfl
                          refine pure_ (i := 5) (N := some 27) (v := ?_) (a' := ?_) #[true, true, true, true, true, true, true, false, false] rfl rfl (any_of HT_.out (by kernel_rfl)) (fun _ _ _ h => h) (Or.inl ⟨by rfl, ?_⟩) ?_ ?_
                          rotate_left
                          · intro w'
                            go_simp
                            with_reducible rfl
                          rotate_left
                          · simp only [Act.put, List.setIfInBounds_toArray, List.set_cons_zero, List.set_cons_succ, i64_w, i32_w]
                            rfl
                          exact norm_ (by simp only [putAll, Act.put, List.setIfInBounds_toArray, List.set_cons_zero, List.set_cons_succ]) (hCont (gb344) _ ⟨hHeld, (by (with_reducible repeat (first | refine blk_drewN ?_ _ | refine blk_drew ?_ | refine blk_alloc ?_ _)); exact BK328.out), (by (with_reducible repeat (first | refine blk_drewN ?_ _ | refine blk_drew ?_ | refine blk_alloc ?_ _)); exact BK336.out), (by (with_reducible repeat (first | refine blk_drewN ?_ _ | refine blk_drew ?_ | refine blk_alloc ?_ _)); exact BK344.out), GW344.out, GE344.out, NB328_344.out, NB344_328.out, NB336_344.out, NB344_336.out, (by repeat (first | (with_reducible first | exact HB.out | apply below_alloc | apply pw_below_drewN | apply below_drew1 | refine below_set ?_ GE328.out | refine below_set ?_ GE336.out | refine below_set ?_ GE344.out) | exact HB.out))⟩)
                      · skip
                        refine box_step ?hg (N := 6) ?hd (cs := #[.int .i64 0, .int .i64 0, .string (⟨#[]⟩ : ByteArray)]) (t := 23) ?hr ?_; (case hd => rfl); (case hg => rfl); (case hr => first | (go_simp; done) | (go_simp; rfl))
                        intro gb344 hg w35 hbox hb
                        have n0_ := Aside0.mk (blk_below (g := gb328) (o := .cells #[.int .i64 t325, .int .i64 t326, .string t327] 23 (0, 0)) (by (with_reducible repeat (first | refine blk_drewN ?_ _ | refine blk_drew ?_ | refine blk_alloc ?_ _)); exact BK328.out) hb)
                        have n1_ := Aside0.mk (blk_below (g := gb336) (o := .cells #[.int .i64 t332, .int .i64 t333, .string t334] 23 (0, 0)) (by (with_reducible repeat (first | refine blk_drewN ?_ _ | refine blk_drew ?_ | refine blk_alloc ?_ _)); exact BK336.out) hb)
                        have n2_ := Aside0.mk (below_step (by repeat (first | (with_reducible first | exact HB.out | apply below_alloc | apply pw_below_drewN | apply below_drew1 | refine below_set ?_ GE328.out | refine below_set ?_ GE336.out) | exact HB.out)) hb)
                        have n3_ := Aside0.mk (hbox)
                        have n4_ := Aside0.mk ((by rw [hg]; exact (below_size (by repeat (first | (with_reducible first | exact HB.out | apply below_alloc | apply pw_below_drewN | apply below_drew1 | refine below_set ?_ GE328.out | refine below_set ?_ GE336.out) | exact HB.out))) : w.heap.size ≤ gb344))
                        have n5_ := Aside0.mk ((by rw [hg]; exact (below_size (by repeat (first | (with_reducible first | exact HB.out | apply below_alloc | apply pw_below_drewN | apply below_drew1 | refine below_set ?_ GE328.out | refine below_set ?_ GE336.out) | exact HB.out))) : w.heap.size ≤ gb344))
                        have n6_ := Aside0.mk ((by rw [hg]; exact Nat.ne_of_lt (blk_lt (g := gb328) (o := .cells #[.int .i64 t325, .int .i64 t326, .string t327] 23 (0, 0)) (by (with_reducible repeat (first | refine blk_drewN ?_ _ | refine blk_drew ?_ | refine blk_alloc ?_ _)); exact BK328.out)) : gb328 ≠ gb344))
                        have n7_ := Aside0.mk ((by rw [hg]; exact Nat.ne_of_gt (blk_lt (g := gb328) (o := .cells #[.int .i64 t325, .int .i64 t326, .string t327] 23 (0, 0)) (by (with_reducible repeat (first | refine blk_drewN ?_ _ | refine blk_drew ?_ | refine blk_alloc ?_ _)); exact BK328.out)) : gb344 ≠ gb328))
                        have n8_ := Aside0.mk ((by rw [hg]; exact Nat.ne_of_lt (blk_lt (g := gb336) (o := .cells #[.int .i64 t332, .int .i64 t333, .string t334] 23 (0, 0)) (by (with_reducible repeat (first | refine blk_drewN ?_ _ | refine blk_drew ?_ | refine blk_alloc ?_ _)); exact BK336.out)) : gb336 ≠ gb344))
                        have n9_ := Aside0.mk ((by rw [hg]; exact Nat.ne_of_gt (blk_lt (g := gb336) (o := .cells #[.int .i64 t332, .int .i64 t333, .string t334] 23 (0, 0)) (by (with_reducible repeat (first | refine blk_drewN ?_ _ | refine blk_drew ?_ | refine blk_alloc ?_ _)); exact BK336.out)) : gb344 ≠ gb336))
                        clear BK328
                        clear BK336
                        clear HB
                        have BK328 := n0_
                        have BK336 := n1_
                        have HB := n2_
                        have BK344 := n3_
                        have GW344 := n4_
                        have GE344 := n5_
                        have NB328_344 := n6_
                        have NB344_328 := n7_
                        have NB336_344 := n8_
                        have NB344_336 := n9_
                        clear n0_ n1_ n2_ n3_ n4_ n5_ n6_ n7_ n8_ n9_
                        clear hb hbox hg
                        refine hK.out _ _ ⟨(blk_cell BK328.out 0).trans rfl, (blk_cell BK328.out 1).trans rfl, (blk_cell BK328.out 2).trans rfl⟩ (fun hHeld => ?_)
                        clear hK K
                        refine norm_ (a' := ?_) ?_ ?_
                        rotate_left
                        · show Act.put _ (some 6) _ = _
                          simp only [Act.put, List.setIfInBounds_toArray, List.set_cons_zero, List.set_cons_succ, i64_w, i32_w]
                          rfl
                        refine one_ (i := 1) (N := some 24) #[true, true, false, false, false, false, true, false, false] rfl rfl (one_of HT_.out (by kernel_rfl)) (by decide) (fun K hK => ?_)
                        refine goes_ Try.func7 (by kernel_rfl) rfl #[.int .i64 10000] (by rfl) rfl rfl (by (try simp only [List.map_toArray, List.map_cons, List.map_nil]); first | done | rfl | (simp only [List.length_drop, List.length_take]; rfl)) ?_
                        with_reducible refine (marqueelaw02_dec.calls 10000 t337 t338 t339 _ A5.out).mono ?_
                        rintro e w36 ⟨rfl, hb⟩
                        refine ⟨_, rfl, ?_⟩
                        have n0_ := Aside0.mk (blk_below (g := gb328) (o := .cells #[.int .i64 t325, .int .i64 t326, .string t327] 23 (0, 0)) (by (with_reducible repeat (first | refine blk_drewN ?_ _ | refine blk_drew ?_ | refine blk_alloc ?_ _)); exact BK328.out) hb)
                        have n1_ := Aside0.mk (blk_below (g := gb336) (o := .cells #[.int .i64 t332, .int .i64 t333, .string t334] 23 (0, 0)) (by (with_reducible repeat (first | refine blk_drewN ?_ _ | refine blk_drew ?_ | refine blk_alloc ?_ _)); exact BK336.out) hb)
                        have n2_ := Aside0.mk (blk_below (g := gb344) (o := .cells #[.int .i64 0, .int .i64 0, .string (⟨#[]⟩ : ByteArray)] 23 (0, 0)) (by (with_reducible repeat (first | refine blk_drewN ?_ _ | refine blk_drew ?_ | refine blk_alloc ?_ _)); exact BK344.out) hb)
                        have n3_ := Aside0.mk (below_step (by repeat (first | (with_reducible first | exact HB.out | apply below_alloc | apply pw_below_drewN | apply below_drew1 | refine below_set ?_ GE328.out | refine below_set ?_ GE336.out | refine below_set ?_ GE344.out) | exact HB.out)) hb)
                        clear BK328
                        clear BK336
                        clear BK344
                        clear HB
                        have BK328 := n0_
                        have BK336 := n1_
                        have BK344 := n2_
                        have HB := n3_
                        clear n0_ n1_ n2_ n3_
                        (try clear hb)
                        (try clear hb2)
                        (try clear hk)
                        (try clear hi)
                        refine hK.out _ _ ⟨(blk_cell BK328.out 0).trans rfl, (blk_cell BK328.out 1).trans rfl, (blk_cell BK328.out 2).trans rfl⟩ (fun hHeld => ?_)
                        clear hK K
                        refine norm_ (a' := ?_) ?_ ?_
                        rotate_left
                        · show Act.put _ (some 24) _ = _
                          simp only [Act.put, List.setIfInBounds_toArray, List.set_cons_zero, List.set_cons_succ, i64_w, i32_w]
                          rfl
                        refine one_ (i := 2) (N := some 25) #[true, true, true, false, false, false, true, false, false] rfl rfl (one_of HT_.out (by kernel_rfl)) (by decide) (fun K hK => ?_)
                        refine goes_ Try.func9 (by kernel_rfl) rfl #[.agg #[.int .i64 t325, .int .i64 t326, .string t327], .agg #[.int .i64 t337, .int .i64 t338, .string t339]] (by rfl) rfl rfl (by (try simp only [List.map_toArray, List.map_cons, List.map_nil]); first | done | rfl | (simp only [List.length_drop, List.length_take]; rfl)) ?_
                        with_reducible refine (arith_Div.calls k t325 t326 t327 t337 t338 t339 t340 t341 t342 t343 _ A6.out).mono ?_
                        rintro e w37 ⟨rfl, hb⟩
                        refine ⟨_, rfl, ?_⟩
                        have n0_ := Aside0.mk (blk_below (g := gb328) (o := .cells #[.int .i64 t325, .int .i64 t326, .string t327] 23 (0, 0)) (by (with_reducible repeat (first | refine blk_drewN ?_ _ | refine blk_drew ?_ | refine blk_alloc ?_ _)); exact BK328.out) hb)
                        have n1_ := Aside0.mk (blk_below (g := gb336) (o := .cells #[.int .i64 t332, .int .i64 t333, .string t334] 23 (0, 0)) (by (with_reducible repeat (first | refine blk_drewN ?_ _ | refine blk_drew ?_ | refine blk_alloc ?_ _)); exact BK336.out) hb)
                        have n2_ := Aside0.mk (blk_below (g := gb344) (o := .cells #[.int .i64 0, .int .i64 0, .string (⟨#[]⟩ : ByteArray)] 23 (0, 0)) (by (with_reducible repeat (first | refine blk_drewN ?_ _ | refine blk_drew ?_ | refine blk_alloc ?_ _)); exact BK344.out) hb)
                        have n3_ := Aside0.mk (below_step (by repeat (first | (with_reducible first | exact HB.out | apply below_alloc | apply pw_below_drewN | apply below_drew1 | refine below_set ?_ GE328.out | refine below_set ?_ GE336.out | refine below_set ?_ GE344.out) | exact HB.out)) hb)
                        clear BK328
                        clear BK336
                        clear BK344
                        clear HB
                        have BK328 := n0_
                        have BK336 := n1_
                        have BK344 := n2_
                        have HB := n3_
                        clear n0_ n1_ n2_ n3_
                        (try clear hb)
                        (try clear hb2)
                        (try clear hk)
                        (try clear hi)
                        refine hK.out _ _ ⟨(blk_cell BK328.out 0).trans rfl, (blk_cell BK328.out 1).trans rfl, (blk_cell BK328.out 2).trans rfl⟩ (fun hHeld => ?_)
                        clear hK K
                        refine norm_ (a' := ?_) ?_ ?_
                        rotate_left
                        · show Act.put _ (some 25) _ = _
                          simp only [Act.put, List.setIfInBounds_toArray, List.set_cons_zero, List.set_cons_succ, i64_w, i32_w]
                          rfl
                        refine pure_ (i := 3) (N := some 22) (v := ?_) (a' := ?_) #[true, true, true, true, false, false, true, false, false] rfl rfl (any_of HT_.out (by kernel_rfl)) (fun _ _ _ h => h) (Or.inl ⟨by rfl, ?_⟩) ?_ ?_
                        rotate_left
                        · intro w'
                          go_simp
                          with_reducible rfl
                        rotate_left
                        · simp only [Act.put, List.setIfInBounds_toArray, List.set_cons_zero, List.set_cons_succ, i64_w, i32_w]
                          rfl
                        refine pure_ (i := 4) (N := some 26) (v := ?_) (a' := ?_) #[true, true, true, true, true, false, true, false, false] rfl rfl (any_of HT_.out (by kernel_rfl)) (fun _ _ _ h => h) (Or.inl ⟨by rfl, ?_⟩) ?_ ?_
                        rotate_left
                        · intro w'
                          go_simp
                          with_reducible rfl
                        rotate_left
                        · simp only [Act.put, List.setIfInBounds_toArray, List.set_cons_zero, List.set_cons_succ, i64_w, i32_w]
                          rfl
                        refine pure_ (i := 5) (N := some 27) (v := ?_) (a' := ?_) #[true, true, true, true, true, true, true, false, false] rfl rfl (any_of HT_.out (by kernel_rfl)) (fun _ _ _ h => h) (Or.inl ⟨by rfl, ?_⟩) ?_ ?_
                        rotate_left
                        · intro w'
                          go_simp
                          with_reducible rfl
                        rotate_left
                        · simp only [Act.put, List.setIfInBounds_toArray, List.set_cons_zero, List.set_cons_succ, i64_w, i32_w]
                          rfl
                        exact norm_ (by simp only [putAll, Act.put, List.setIfInBounds_toArray, List.set_cons_zero, List.set_cons_succ]) (hCont (gb344) _ ⟨hHeld, (by (with_reducible repeat (first | refine blk_drewN ?_ _ | refine blk_drew ?_ | refine blk_alloc ?_ _)); exact BK328.out), (by (with_reducible repeat (first | refine blk_drewN ?_ _ | refine blk_drew ?_ | refine blk_alloc ?_ _)); exact BK336.out), (by (with_reducible repeat (first | refine blk_drewN ?_ _ | refine blk_drew ?_ | refine blk_alloc ?_ _)); exact BK344.out), GW344.out, GE344.out, NB328_344.out, NB344_328.out, NB336_344.out, NB344_336.out, (by repeat (first | (with_reducible first | exact HB.out | apply below_alloc | apply pw_below_drewN | apply below_drew1 | refine below_set ?_ GE328.out | refine below_set ?_ GE336.out | refine below_set ?_ GE344.out) | exact HB.out))⟩)
                    rintro gb344 w38 ⟨hS_, h0_, h1_, h2_, h3_, h4_, h5_, h6_, h7_, h8_, h9_⟩
                    have n0_ : Aside0 (w38.heap[gb328]? = some (.cells #[.int .i64 t325, .int .i64 t326, .string t327] 23 (0, 0))) := ⟨h0_⟩
                    have n1_ : Aside0 (w38.heap[gb336]? = some (.cells #[.int .i64 t332, .int .i64 t333, .string t334] 23 (0, 0))) := ⟨h1_⟩
                    have n2_ : Aside0 (w38.heap[gb344]? = some (.cells #[.int .i64 0, .int .i64 0, .string (⟨#[]⟩ : ByteArray)] 23 (0, 0))) := ⟨h2_⟩
                    have n3_ : Aside0 (w.heap.size ≤ gb344) := ⟨h3_⟩
                    have n4_ : Aside0 (w.heap.size ≤ gb344) := ⟨h4_⟩
                    have n5_ : Aside0 (gb328 ≠ gb344) := ⟨h5_⟩
                    have n6_ : Aside0 (gb344 ≠ gb328) := ⟨h6_⟩
                    have n7_ : Aside0 (gb336 ≠ gb344) := ⟨h7_⟩
                    have n8_ : Aside0 (gb344 ≠ gb336) := ⟨h8_⟩
                    have n9_ : Aside0 (Below w.heap.size w w38) := ⟨h9_⟩
                    clear BK328
                    clear BK336
                    clear HB
                    clear h0_ h1_ h2_ h3_ h4_ h5_ h6_ h7_ h8_ h9_
                    have BK328 := n0_
                    have BK336 := n1_
                    have BK344 := n2_
                    have GW344 := n3_
                    have GE344 := n4_
                    have NB328_344 := n5_
                    have NB344_328 := n6_
                    have NB336_344 := n7_
                    have NB344_336 := n8_
                    have HB := n9_
                    clear n0_ n1_ n2_ n3_ n4_ n5_ n6_ n7_ n8_ n9_
                    have hHeld : w38.cell? ⟨gb328, 0, none⟩ = some (.int .i64 t325) ∧ w38.cell? ⟨gb328, 1, none⟩ = some (.int .i64 t326) ∧ w38.cell? ⟨gb328, 2, none⟩ = some (.string t327) := hS_
                    refine norm_ (a' := ?_) ?_ ?_
                    rotate_left
                    · simp only [putAll, Act.put, List.setIfInBounds_toArray, List.set_cons_zero, List.set_cons_succ]
                      rfl
                    refine one_ (i := 7) (N := none) #[true, true, true, true, true, true, true, true, false] rfl rfl (one_of HT_.out (by kernel_rfl)) (by decide) (fun K hK => ?_)
                    have hs39 : w38.cell? ⟨gb344, 0, none⟩ = some (.int .i64 0) := (blk_cell BK344.out 0).trans rfl
                    have hfs39 := blk_frozen BK344.out 0
                    have hns39_0 := NB328_344.out
                    have hns39_1 := NB336_344.out
                    have hms39_0 := NB344_328.out
                    have hms39_1 := NB344_336.out
                    have hs40 : w38.cell? ⟨gb344, 1, none⟩ = some (.int .i64 0) := (blk_cell BK344.out 1).trans rfl
                    have hfs40 := blk_frozen BK344.out 1
                    have hns40_0 := NB328_344.out
                    have hns40_1 := NB336_344.out
                    have hms40_0 := NB344_328.out
                    have hms40_1 := NB344_336.out
                    have hs41 : w38.cell? ⟨gb344, 2, none⟩ = some (.string (⟨#[]⟩ : ByteArray)) := (blk_cell BK344.out 2).trans rfl
                    have hfs41 := blk_frozen BK344.out 2
                    have hns41_0 := NB328_344.out
                    have hns41_1 := NB336_344.out
                    have hms41_0 := NB344_328.out
                    have hms41_1 := NB344_336.out
                    refine skip_ (w1 := ?_) (by rfl) rfl ?_ ?_
                    rotate_left
                    · go_simp
                      rfl
                    refine hK.out _ _ ⟨((cell_far (p := ⟨gb344, _, none⟩) NB328_344.out _).trans (((cell_far (p := ⟨gb344, _, none⟩) NB328_344.out _).trans (((cell_far (p := ⟨gb344, _, none⟩) NB328_344.out _).trans (hHeld.1)))))), ((cell_far (p := ⟨gb344, _, none⟩) NB328_344.out _).trans (((cell_far (p := ⟨gb344, _, none⟩) NB328_344.out _).trans (((cell_far (p := ⟨gb344, _, none⟩) NB328_344.out _).trans (hHeld.2.1)))))), ((cell_far (p := ⟨gb344, _, none⟩) NB328_344.out _).trans (((cell_far (p := ⟨gb344, _, none⟩) NB328_344.out _).trans (((cell_far (p := ⟨gb344, _, none⟩) NB328_344.out _).trans (hHeld.2.2))))))⟩ (fun hHeld => ?_)
                    clear hK K
                    refine pure_ (i := 8) (N := some 7) (v := ?_) (a' := ?_) #[true, true, true, true, true, true, true, true, true] rfl rfl (any_of HT_.out (by kernel_rfl)) (fun _ _ _ h => h) (Or.inl ⟨by rfl, ?_⟩) ?_ ?_
                    rotate_left
                    · intro w'
                      go_simp
                      with_reducible rfl
                    rotate_left
                    · simp only [Act.put, List.setIfInBounds_toArray, List.set_cons_zero, List.set_cons_succ, i64_w, i32_w]
                      rfl
                    refine done_ (done_of HT_.out (by kernel_rfl)) ?_
                    try go_wp2
                    have n0_ : Aside0 ((((w38.setCell ⟨gb344, 0, none⟩ (.int .i64 t340)).setCell ⟨gb344, 1, none⟩ (.int .i64 t341)).setCell ⟨gb344, 2, none⟩ (.string t342)).heap[gb328]? = some (.cells #[.int .i64 t325, .int .i64 t326, .string t327] 23 (0, 0))) := ⟨by (with_reducible repeat (first | refine blk_drewN ?_ _ | refine blk_drew ?_ | refine blk_alloc ?_ _)); refine blk_far ?_ NB328_344.out _; (with_reducible repeat (first | refine blk_drewN ?_ _ | refine blk_drew ?_ | refine blk_alloc ?_ _)); refine blk_far ?_ NB328_344.out _; (with_reducible repeat (first | refine blk_drewN ?_ _ | refine blk_drew ?_ | refine blk_alloc ?_ _)); refine blk_far ?_ NB328_344.out _; (with_reducible repeat (first | refine blk_drewN ?_ _ | refine blk_drew ?_ | refine blk_alloc ?_ _)); exact BK328.out⟩
                    have n1_ : Aside0 ((((w38.setCell ⟨gb344, 0, none⟩ (.int .i64 t340)).setCell ⟨gb344, 1, none⟩ (.int .i64 t341)).setCell ⟨gb344, 2, none⟩ (.string t342)).heap[gb336]? = some (.cells #[.int .i64 t332, .int .i64 t333, .string t334] 23 (0, 0))) := ⟨by (with_reducible repeat (first | refine blk_drewN ?_ _ | refine blk_drew ?_ | refine blk_alloc ?_ _)); refine blk_far ?_ NB336_344.out _; (with_reducible repeat (first | refine blk_drewN ?_ _ | refine blk_drew ?_ | refine blk_alloc ?_ _)); refine blk_far ?_ NB336_344.out _; (with_reducible repeat (first | refine blk_drewN ?_ _ | refine blk_drew ?_ | refine blk_alloc ?_ _)); refine blk_far ?_ NB336_344.out _; (with_reducible repeat (first | refine blk_drewN ?_ _ | refine blk_drew ?_ | refine blk_alloc ?_ _)); exact BK336.out⟩
                    have n2_ : Aside0 ((((w38.setCell ⟨gb344, 0, none⟩ (.int .i64 t340)).setCell ⟨gb344, 1, none⟩ (.int .i64 t341)).setCell ⟨gb344, 2, none⟩ (.string t342)).heap[gb344]? = some (.cells #[.int .i64 t340, .int .i64 t341, .string t342] 23 (0, 0))) := ⟨by (with_reducible repeat (first | refine blk_drewN ?_ _ | refine blk_drew ?_ | refine blk_alloc ?_ _)); refine blk_put (cs := #[.int .i64 t340, .int .i64 t341, .string (⟨#[]⟩ : ByteArray)]) ?_ 2 _ rfl; (with_reducible repeat (first | refine blk_drewN ?_ _ | refine blk_drew ?_ | refine blk_alloc ?_ _)); refine blk_put (cs := #[.int .i64 t340, .int .i64 0, .string (⟨#[]⟩ : ByteArray)]) ?_ 1 _ rfl; (with_reducible repeat (first | refine blk_drewN ?_ _ | refine blk_drew ?_ | refine blk_alloc ?_ _)); refine blk_put (cs := #[.int .i64 0, .int .i64 0, .string (⟨#[]⟩ : ByteArray)]) ?_ 0 _ rfl; (with_reducible repeat (first | refine blk_drewN ?_ _ | refine blk_drew ?_ | refine blk_alloc ?_ _)); exact BK344.out⟩
                    have n3_ : Aside0 (Below w.heap.size w (((w38.setCell ⟨gb344, 0, none⟩ (.int .i64 t340)).setCell ⟨gb344, 1, none⟩ (.int .i64 t341)).setCell ⟨gb344, 2, none⟩ (.string t342))) := ⟨by repeat (first | (with_reducible first | exact HB.out | apply below_alloc | apply pw_below_drewN | apply below_drew1 | refine below_set ?_ GE328.out | refine below_set ?_ GE336.out | refine below_set ?_ GE344.out) | exact HB.out)⟩
                    (try clear BK328)
                    (try clear BK336)
                    (try clear BK344)
                    (try clear HB)
                    generalize (((w38.setCell ⟨gb344, 0, none⟩ (.int .i64 t340)).setCell ⟨gb344, 1, none⟩ (.int .i64 t341)).setCell ⟨gb344, 2, none⟩ (.string t342)) = w42 at n0_ n1_ n2_ n3_ ⊢
                    have BK328 := n0_
                    have BK336 := n1_
                    have BK344 := n2_
                    have HB := n3_
                    clear n0_ n1_ n2_ n3_
                    have n0_ := Aside0.mk (blk_drew BK328.out)
                    have n1_ := Aside0.mk (blk_drew BK336.out)
                    have n2_ := Aside0.mk (blk_drew BK344.out)
                    have n3_ := Aside0.mk (below_drew1 HB.out)
                    clear BK328
                    clear BK336
                    clear BK344
                    clear HB
                    have BK328 := n0_
                    have BK336 := n1_
                    have BK344 := n2_
                    have HB := n3_
                    clear n0_ n1_ n2_ n3_
                    refine start_ (n := 9) (S := fun w' => w'.cell? ⟨gb328, 0, none⟩ = some (.int .i64 t325) ∧ w'.cell? ⟨gb328, 1, none⟩ = some (.int .i64 t326) ∧ w'.cell? ⟨gb328, 2, none⟩ = some (.string t327)) (ds := []) #[false, false, false, false, false, false, false, false, false] (by kernel_rfl) rfl rfl ⟨(blk_cell BK328.out 0).trans rfl, (blk_cell BK328.out 1).trans rfl, (blk_cell BK328.out 2).trans rfl⟩ (fun hHeld => ?_); refine with_tabW marqueelaw02_ArithWide.tab4 marqueelaw02_ArithWide.bits4 (fun HT_ HW_ => ?_)
                    generalize w42.drew = w43 at BK328 BK336 BK344 HB hHeld ⊢
                    refine take_ (i := 0) (N := some 29) (v := ?_) (a' := ?_) #[true, false, false, false, false, false, false, false, false] rfl rfl (take_ofW HT_.out HW_.out (by kernel_rfl)) (fun _ _ _ h => h) (Or.inl ⟨by rfl, ?_⟩) hHeld ?_ ?_
                    rotate_left
                    · rintro w' ⟨s0, s1, s2⟩
                      go_simp
                      with_reducible rfl
                    rotate_left
                    · simp only [Act.put, List.setIfInBounds_toArray, List.set_cons_zero, List.set_cons_succ, i64_w, i32_w]
                      rfl
                    refine join_ (σ := Nat) 2 #[true, true, true, true, true, true, true, false, false] (fun s_ => [(30, .agg #[.int .i64 t345, .int .i64 t346, .string t347]), (31, .tuple #[.agg #[.int .i64 t348, .int .i64 t349, .string t350], .int .i64 t351]), (8, .pointer (some ⟨s_, 0, none⟩)), (28, .tuple #[.agg #[.int .i64 t348, .int .i64 t349, .string t350], .int .i64 t351]), (32, .agg #[.int .i64 t348, .int .i64 t349, .string t350]), (33, .int .i64 t351)]) (fun s_ w' => (w'.cell? ⟨gb328, 0, none⟩ = some (.int .i64 t325) ∧ w'.cell? ⟨gb328, 1, none⟩ = some (.int .i64 t326) ∧ w'.cell? ⟨gb328, 2, none⟩ = some (.string t327)) ∧ (w'.heap[gb328]? = some (.cells #[.int .i64 t325, .int .i64 t326, .string t327] 23 (0, 0))) ∧ (w'.heap[gb336]? = some (.cells #[.int .i64 t332, .int .i64 t333, .string t334] 23 (0, 0))) ∧ (w'.heap[gb344]? = some (.cells #[.int .i64 t340, .int .i64 t341, .string t342] 23 (0, 0))) ∧ (w'.heap[s_]? = some (.cells #[.int .i64 0, .int .i64 0, .string (⟨#[]⟩ : ByteArray)] 23 (0, 0))) ∧ (w.heap.size ≤ s_) ∧ (w.heap.size ≤ s_) ∧ (gb328 ≠ s_) ∧ (s_ ≠ gb328) ∧ (gb336 ≠ s_) ∧ (s_ ≠ gb336) ∧ (gb344 ≠ s_) ∧ (s_ ≠ gb344) ∧ (Below w.heap.size w w')) ?_ ?_
                    rotate_left
                    · intro hCont
                      refine two_ (i := 1) (j := 6) (Ni := some 30) (Nj := some 8) #[true, true, false, false, false, false, false, false, false] #[true, false, false, false, false, false, true, false, false] rfl rfl rfl rfl (two_of HT_.out (by kernel_rfl)) (by decide) (by decide) (fun K hK => ?_) (fun K hK => ?_)
                      · skip
                        refine goes_ Try.func7 (by kernel_rfl) rfl #[.int .i64 5000] (by rfl) rfl rfl (by (try simp only [List.map_toArray, List.map_cons, List.map_nil]); first | done | rfl | (simp only [List.length_drop, List.length_take]; rfl)) ?_
                        with_reducible refine (marqueelaw02_dec.calls 5000 t345 t346 t347 _ A7.out).mono ?_
                        rintro e w44 ⟨rfl, hb⟩
                        refine ⟨_, rfl, ?_⟩
                        have n0_ := Aside0.mk (blk_below (g := gb328) (o := .cells #[.int .i64 t325, .int .i64 t326, .string t327] 23 (0, 0)) (by (with_reducible repeat (first | refine blk_drewN ?_ _ | refine blk_drew ?_ | refine blk_alloc ?_ _)); exact BK328.out) hb)
                        have n1_ := Aside0.mk (blk_below (g := gb336) (o := .cells #[.int .i64 t332, .int .i64 t333, .string t334] 23 (0, 0)) (by (with_reducible repeat (first | refine blk_drewN ?_ _ | refine blk_drew ?_ | refine blk_alloc ?_ _)); exact BK336.out) hb)
                        have n2_ := Aside0.mk (blk_below (g := gb344) (o := .cells #[.int .i64 t340, .int .i64 t341, .string t342] 23 (0, 0)) (by (with_reducible repeat (first | refine blk_drewN ?_ _ | refine blk_drew ?_ | refine blk_alloc ?_ _)); exact BK344.out) hb)
                        have n3_ := Aside0.mk (below_step (by repeat (first | (with_reducible first | exact HB.out | apply below_alloc | apply pw_below_drewN | apply below_drew1 | refine below_set ?_ GE328.out | refine below_set ?_ GE336.out | refine below_set ?_ GE344.out) | exact HB.out)) hb)
                        clear BK328
                        clear BK336
                        clear BK344
                        clear HB
                        have BK328 := n0_
                        have BK336 := n1_
                        have BK344 := n2_
                        have HB := n3_
                        clear n0_ n1_ n2_ n3_
                        (try clear hb)
                        (try clear hb2)
                        (try clear hk)
                        (try clear hi)
                        refine hK.out _ _ ⟨(blk_cell BK328.out 0).trans rfl, (blk_cell BK328.out 1).trans rfl, (blk_cell BK328.out 2).trans rfl⟩ (fun hHeld => ?_)
                        clear hK K
                        refine norm_ (a' := ?_) ?_ ?_
                        rotate_left
                        · show Act.put _ (some 30) _ = _
                          simp only [Act.put, List.setIfInBounds_toArray, List.set_cons_zero, List.set_cons_succ, i64_w, i32_w]
                          rfl
                        refine two_ (i := 2) (j := 6) (Ni := some 31) (Nj := some 8) #[true, true, true, false, false, false, false, false, false] #[true, true, false, false, false, false, true, false, false] rfl rfl rfl rfl (two_of HT_.out (by kernel_rfl)) (by decide) (by decide) (fun K hK => ?_) (fun K hK => ?_)
                        · skip
                          refine goes_ Try.func8 (by kernel_rfl) rfl #[.agg #[.int .i64 t325, .int .i64 t326, .string t327], .agg #[.int .i64 t345, .int .i64 t346, .string t347]] (by rfl) rfl rfl (by (try simp only [List.map_toArray, List.map_cons, List.map_nil]); first | done | rfl | (simp only [List.length_drop, List.length_take]; rfl)) ?_
                          with_reducible refine (arith_Mul.calls k t325 t326 t327 t345 t346 t347 t348 t349 t350 t351 _ A8.out).mono ?_
                          rintro e w45 ⟨rfl, hb⟩
                          refine ⟨_, rfl, ?_⟩
                          have n0_ := Aside0.mk (blk_below (g := gb328) (o := .cells #[.int .i64 t325, .int .i64 t326, .string t327] 23 (0, 0)) (by (with_reducible repeat (first | refine blk_drewN ?_ _ | refine blk_drew ?_ | refine blk_alloc ?_ _)); exact BK328.out) hb)
                          have n1_ := Aside0.mk (blk_below (g := gb336) (o := .cells #[.int .i64 t332, .int .i64 t333, .string t334] 23 (0, 0)) (by (with_reducible repeat (first | refine blk_drewN ?_ _ | refine blk_drew ?_ | refine blk_alloc ?_ _)); exact BK336.out) hb)
                          have n2_ := Aside0.mk (blk_below (g := gb344) (o := .cells #[.int .i64 t340, .int .i64 t341, .string t342] 23 (0, 0)) (by (with_reducible repeat (first | refine blk_drewN ?_ _ | refine blk_drew ?_ | refine blk_alloc ?_ _)); exact BK344.out) hb)
                          have n3_ := Aside0.mk (below_step (by repeat (first | (with_reducible first | exact HB.out | apply below_alloc | apply pw_below_drewN | apply below_drew1 | refine below_set ?_ GE328.out | refine below_set ?_ GE336.out | refine below_set ?_ GE344.out) | exact HB.out)) hb)
                          clear BK328
                          clear BK336
                          clear BK344
                          clear HB
                          have BK328 := n0_
                          have BK336 := n1_
                          have BK344 := n2_
                          have HB := n3_
                          clear n0_ n1_ n2_ n3_
                          (try clear hb)
                          (try clear hb2)
                          (try clear hk)
                          (try clear hi)
                          refine hK.out _ _ ⟨(blk_cell BK328.out 0).trans rfl, (blk_cell BK328.out 1).trans rfl, (blk_cell BK328.out 2).trans rfl⟩ (fun hHeld => ?_)
                          clear hK K
                          refine norm_ (a' := ?_) ?_ ?_
                          rotate_left
                          · show Act.put _ (some 31) _ = _
                            simp only [Act.put, List.setIfInBounds_toArray, List.set_cons_zero, List.set_cons_succ, i64_w, i32_w]
                            rfl
                          refine pure_ (i := 3) (N := some 28) (v := ?_) (a' := ?_) #[true, true, true, true, false, false, false, false, false] rfl rfl (any_of HT_.out (by kernel_rfl)) (fun _ _ _ h => h) (Or.inl ⟨by rfl, ?_⟩) ?_ ?_
                          rotate_left
                          · intro w'
                            go_simp
                            with_reducible rfl
                          rotate_left
                          · simp only [Act.put, List.setIfInBounds_toArray, List.set_cons_zero, List.set_cons_succ, i64_w, i32_w]
                            rfl
                          refine pure_ (i := 4) (N := some 32) (v := ?_) (a' := ?_) #[true, true, true, true, true, false, false, false, false] rfl rfl (any_of HT_.out (by kernel_rfl)) (fun _ _ _ h => h) (Or.inl ⟨by rfl, ?_⟩) ?_ ?_
                          rotate_left
                          · intro w'
                            go_simp
                            with_reducible rfl
                          rotate_left
                          · simp only [Act.put, List.setIfInBounds_toArray, List.set_cons_zero, List.set_cons_succ, i64_w, i32_w]
                            rfl
                          refine pure_ (i := 5) (N := some 33) (v := ?_) (a' := ?_) #[true, true, true, true, true, true, false, false, false] rfl rfl (any_of HT_.out (by kernel_rfl)) (fun _ _ _ h => h) (Or.inl ⟨by rfl, ?_⟩) ?_ ?_
                          rotate_left
                          · intro w'
                            go_simp
                            with_reducible rfl
                          rotate_left
                          · simp only [Act.put, List.setIfInBounds_toArray, List.set_cons_zero, List.set_cons_succ, i64_w, i32_w]
                            rfl
                          refine one_ (i := 6) (N := some 8) #[true, true, true, true, true, true, true, false, false] rfl rfl (one_of HT_.out (by kernel_rfl)) (by decide) (fun K hK => ?_)
                          refine box_step ?hg (N := 8) ?hd (cs := #[.int .i64 0, .int .i64 0, .string (⟨#[]⟩ : ByteArray)]) (t := 23) ?hr ?_; (case hd => rfl); (case hg => rfl); (case hr => first | (go_simp; done) | (go_simp; rfl))
                          intro gb352 hg w46 hbox hb
                          have n0_ := Aside0.mk (blk_below (g := gb328) (o := .cells #[.int .i64 t325, .int .i64 t326, .string t327] 23 (0, 0)) (by (with_reducible repeat (first | refine blk_drewN ?_ _ | refine blk_drew ?_ | refine blk_alloc ?_ _)); exact BK328.out) hb)
                          have n1_ := Aside0.mk (blk_below (g := gb336) (o := .cells #[.int .i64 t332, .int .i64 t333, .string t334] 23 (0, 0)) (by (with_reducible repeat (first | refine blk_drewN ?_ _ | refine blk_drew ?_ | refine blk_alloc ?_ _)); exact BK336.out) hb)
                          have n2_ := Aside0.mk (blk_below (g := gb344) (o := .cells #[.int .i64 t340, .int .i64 t341, .string t342] 23 (0, 0)) (by (with_reducible repeat (first | refine blk_drewN ?_ _ | refine blk_drew ?_ | refine blk_alloc ?_ _)); exact BK344.out) hb)
                          have n3_ := Aside0.mk (below_step (by repeat (first | (with_reducible first | exact HB.out | apply below_alloc | apply pw_below_drewN | apply below_drew1 | refine below_set ?_ GE328.out | refine below_set ?_ GE336.out | refine below_set ?_ GE344.out) | exact HB.out)) hb)
                          have n4_ := Aside0.mk (hbox)
                          have n5_ := Aside0.mk ((by rw [hg]; exact (below_size (by repeat (first | (with_reducible first | exact HB.out | apply below_alloc | apply pw_below_drewN | apply below_drew1 | refine below_set ?_ GE328.out | refine below_set ?_ GE336.out | refine below_set ?_ GE344.out) | exact HB.out))) : w.heap.size ≤ gb352))
                          have n6_ := Aside0.mk ((by rw [hg]; exact (below_size (by repeat (first | (with_reducible first | exact HB.out | apply below_alloc | apply pw_below_drewN | apply below_drew1 | refine below_set ?_ GE328.out | refine below_set ?_ GE336.out | refine below_set ?_ GE344.out) | exact HB.out))) : w.heap.size ≤ gb352))
                          have n7_ := Aside0.mk ((by rw [hg]; exact Nat.ne_of_lt (blk_lt (g := gb328) (o := .cells #[.int .i64 t325, .int .i64 t326, .string t327] 23 (0, 0)) (by (with_reducible repeat (first | refine blk_drewN ?_ _ | refine blk_drew ?_ | refine blk_alloc ?_ _)); exact BK328.out)) : gb328 ≠ gb352))
                          have n8_ := Aside0.mk ((by rw [hg]; exact Nat.ne_of_gt (blk_lt (g := gb328) (o := .cells #[.int .i64 t325, .int .i64 t326, .string t327] 23 (0, 0)) (by (with_reducible repeat (first | refine blk_drewN ?_ _ | refine blk_drew ?_ | refine blk_alloc ?_ _)); exact BK328.out)) : gb352 ≠ gb328))
                          have n9_ := Aside0.mk ((by rw [hg]; exact Nat.ne_of_lt (blk_lt (g := gb336) (o := .cells #[.int .i64 t332, .int .i64 t333, .string t334] 23 (0, 0)) (by (with_reducible repeat (first | refine blk_drewN ?_ _ | refine blk_drew ?_ | refine blk_alloc ?_ _)); exact BK336.out)) : gb336 ≠ gb352))
                          have n10_ := Aside0.mk ((by rw [hg]; exact Nat.ne_of_gt (blk_lt (g := gb336) (o := .cells #[.int .i64 t332, .int .i64 t333, .string t334] 23 (0, 0)) (by (with_reducible repeat (first | refine blk_drewN ?_ _ | refine blk_drew ?_ | refine blk_alloc ?_ _)); exact BK336.out)) : gb352 ≠ gb336))
                          have n11_ := Aside0.mk ((by rw [hg]; exact Nat.ne_of_lt (blk_lt (g := gb344) (o := .cells #[.int .i64 t340, .int .i64 t341, .string t342] 23 (0, 0)) (by (with_reducible repeat (first | refine blk_drewN ?_ _ | refine blk_drew ?_ | refine blk_alloc ?_ _)); exact BK344.out)) : gb344 ≠ gb352))
                          have n12_ := Aside0.mk ((by rw [hg]; exact Nat.ne_of_gt (blk_lt (g := gb344) (o := .cells #[.int .i64 t340, .int .i64 t341, .string t342] 23 (0, 0)) (by (with_reducible repeat (first | refine blk_drewN ?_ _ | refine blk_drew ?_ | refine blk_alloc ?_ _)); exact BK344.out)) : gb352 ≠ gb344))
                          clear BK328
                          clear BK336
                          clear BK344
                          clear HB
                          have BK328 := n0_
                          have BK336 := n1_
                          have BK344 := n2_
                          have HB := n3_
                          have BK352 := n4_
                          have GW352 := n5_
                          have GE352 := n6_
                          have NB328_352 := n7_
                          have NB352_328 := n8_
                          have NB336_352 := n9_
                          have NB352_336 := n10_
                          have NB344_352 := n11_
                          have NB352_344 := n12_
                          clear n0_ n1_ n2_ n3_ n4_ n5_ n6_ n7_ n8_ n9_ n10_ n11_ n12_
                          clear hb hbox hg
                          refine hK.out _ _ ⟨(blk_cell BK328.out 0).trans rfl, (blk_cell BK328.out 1).trans rfl, (blk_cell BK328.out 2).trans rfl⟩ (fun hHeld => ?_)
                          clear hK K
                          refine norm_ (a' := ?_) ?_ ?_
                          rotate_left
                          · show Act.put _ (some 8) _ = _
                            simp only [Act.put, List.setIfInBounds_toArray, List.set_cons_zero, List.set_cons_succ, i64_w, i32_w]
                            rfl
                          exact norm_ (by simp only [putAll, Act.put, List.setIfInBounds_toArray, List.set_cons_zero, List.set_cons_succ]) (hCont (gb352) _ ⟨hHeld, (by (with_reducible repeat (first | refine blk_drewN ?_ _ | refine blk_drew ?_ | refine blk_alloc ?_ _)); exact BK328.out), (by (with_reducible repeat (first | refine blk_drewN ?_ _ | refine blk_drew ?_ | refine blk_alloc ?_ _)); exact BK336.out), (by (with_reducible repeat (first | refine blk_drewN ?_ _ | refine blk_drew ?_ | refine blk_alloc ?_ _)); exact BK344.out), (by (with_reducible repeat (first | refine blk_drewN ?_ _ | refine blk_drew ?_ | refine blk_alloc ?_ _)); exact BK352.out), GW352.out, GE352.out, NB328_352.out, NB352_328.out, NB336_352.out, NB352_336.out, NB344_352.out, NB352_344.out, (by repeat (first | (with_reducible first | exact HB.out | apply below_alloc | apply pw_below_drewN | apply below_drew1 | refine below_set ?_ GE328.out | refine below_set ?_ GE336.out | refine below_set ?_ GE344.out | refine below_set ?_ GE352.out) | exact HB.out))⟩)
                        · skip
                          refine box_step ?hg (N := 8) ?hd (cs := #[.int .i64 0, .int .i64 0, .string (⟨#[]⟩ : ByteArray)]) (t := 23) ?hr ?_; (case hd => rfl); (case hg => rfl); (case hr => first | (go_simp; done) | (go_simp; rfl))
                          intro gb352 hg w45 hbox hb
                          have n0_ := Aside0.mk (blk_below (g := gb328) (o := .cells #[.int .i64 t325, .int .i64 t326, .string t327] 23 (0, 0)) (by (with_reducible repeat (first | refine blk_drewN ?_ _ | refine blk_drew ?_ | refine blk_alloc ?_ _)); exact BK328.out) hb)
                          have n1_ := Aside0.mk (blk_below (g := gb336) (o := .cells #[.int .i64 t332, .int .i64 t333, .string t334] 23 (0, 0)) (by (with_reducible repeat (first | refine blk_drewN ?_ _ | refine blk_drew ?_ | refine blk_alloc ?_ _)); exact BK336.out) hb)
                          have n2_ := Aside0.mk (blk_below (g := gb344) (o := .cells #[.int .i64 t340, .int .i64 t341, .string t342] 23 (0, 0)) (by (with_reducible repeat (first | refine blk_drewN ?_ _ | refine blk_drew ?_ | refine blk_alloc ?_ _)); exact BK344.out) hb)
                          have n3_ := Aside0.mk (below_step (by repeat (first | (with_reducible first | exact HB.out | apply below_alloc | apply pw_below_drewN | apply below_drew1 | refine below_set ?_ GE328.out | refine below_set ?_ GE336.out | refine below_set ?_ GE344.out) | exact HB.out)) hb)
                          have n4_ := Aside0.mk (hbox)
                          have n5_ := Aside0.mk ((by rw [hg]; exact (below_size (by repeat (first | (with_reducible first | exact HB.out | apply below_alloc | apply pw_below_drewN | apply below_drew1 | refine below_set ?_ GE328.out | refine below_set ?_ GE336.out | refine below_set ?_ GE344.out) | exact HB.out))) : w.heap.size ≤ gb352))
                          have n6_ := Aside0.mk ((by rw [hg]; exact (below_size (by repeat (first | (with_reducible first | exact HB.out | apply below_alloc | apply pw_below_drewN | apply below_drew1 | refine below_set ?_ GE328.out | refine below_set ?_ GE336.out | refine below_set ?_ GE344.out) | exact HB.out))) : w.heap.size ≤ gb352))
                          have n7_ := Aside0.mk ((by rw [hg]; exact Nat.ne_of_lt (blk_lt (g := gb328) (o := .cells #[.int .i64 t325, .int .i64 t326, .string t327] 23 (0, 0)) (by (with_reducible repeat (first | refine blk_drewN ?_ _ | refine blk_drew ?_ | refine blk_alloc ?_ _)); exact BK328.out)) : gb328 ≠ gb352))
                          have n8_ := Aside0.mk ((by rw [hg]; exact Nat.ne_of_gt (blk_lt (g := gb328) (o := .cells #[.int .i64 t325, .int .i64 t326, .string t327] 23 (0, 0)) (by (with_reducible repeat (first | refine blk_drewN ?_ _ | refine blk_drew ?_ | refine blk_alloc ?_ _)); exact BK328.out)) : gb352 ≠ gb328))
                          have n9_ := Aside0.mk ((by rw [hg]; exact Nat.ne_of_lt (blk_lt (g := gb336) (o := .cells #[.int .i64 t332, .int .i64 t333, .string t334] 23 (0, 0)) (by (with_reducible repeat (first | refine blk_drewN ?_ _ | refine blk_drew ?_ | refine blk_alloc ?_ _)); exact BK336.out)) : gb336 ≠ gb352))
                          have n10_ := Aside0.mk ((by rw [hg]; exact Nat.ne_of_gt (blk_lt (g := gb336) (o := .cells #[.int .i64 t332, .int .i64 t333, .string t334] 23 (0, 0)) (by (with_reducible repeat (first | refine blk_drewN ?_ _ | refine blk_drew ?_ | refine blk_alloc ?_ _)); exact BK336.out)) : gb352 ≠ gb336))
                          have n11_ := Aside0.mk ((by rw [hg]; exact Nat.ne_of_lt (blk_lt (g := gb344) (o := .cells #[.int .i64 t340, .int .i64 t341, .string t342] 23 (0, 0)) (by (with_reducible repeat (first | refine blk_drewN ?_ _ | refine blk_drew ?_ | refine blk_alloc ?_ _)); exact BK344.out)) : gb344 ≠ gb352))
                          have n12_ := Aside0.mk ((by rw [hg]; exact Nat.ne_of_gt (blk_lt (g := gb344) (o := .cells #[.int .i64 t340, .int .i64 t341, .string t342] 23 (0, 0)) (by (with_reducible repeat (first | refine blk_drewN ?_ _ | refine blk_drew ?_ | refine blk_alloc ?_ _)); exact BK344.out)) : gb352 ≠ gb344))
                          clear BK328
                          clear BK336
                          clear BK344
                          clear HB
                          have BK328 := n0_
                          have BK336 := n1_
                          have BK344 := n2_
                          have HB := n3_
                          have BK352 := n4_
                          have GW352 := n5_
                          have GE352 := n6_
                          have NB328_352 := n7_
                          have NB352_328 := n8_
                          have NB336_352 := n9_
                          have NB352_336 := n10_
                          have NB344_352 := n11_
                          have NB352_344 := n12_
                          clear n0_ n1_ n2_ n3_ n4_ n5_ n6_ n7_ n8_ n9_ n10_ n11_ n12_
                          clear hb hbox hg
                          refine hK.out _ _ ⟨(blk_cell BK328.out 0).trans rfl, (blk_cell BK328.out 1).trans rfl, (blk_cell BK328.out 2).trans rfl⟩ (fun hHeld => ?_)
                          clear hK K
                          refine norm_ (a' := ?_) ?_ ?_
                          rotate_left
                          · show Act.put _ (some 8) _ = _
                            simp only [Act.put, List.setIfInBounds_toArray, List.set_cons_zero, List.set_cons_succ, i64_w, i32_w]
                            rfl
                          refine one_ (i := 2) (N := some 31) #[true, true, true, false, false, false, true, false, false] rfl rfl (one_of HT_.out (by kernel_rfl)) (by decide) (fun K hK => ?_)
                          refine goes_ Try.func8 (by kernel_rfl) rfl #[.agg #[.int .i64 t325, .int .i64 t326, .string t327], .agg #[.int .i64 t345, .int .i64 t346, .string t347]] (by rfl) rfl rfl (by (try simp only [List.map_toArray, List.map_cons, List.map_nil]); first | done | rfl | (simp only [List.length_drop, List.length_take]; rfl)) ?_
                          with_reducible refine (arith_Mul.calls k t325 t326 t327 t345 t346 t347 t348 t349 t350 t351 _ A8.out).mono ?_
                          rintro e w46 ⟨rfl, hb⟩
                          refine ⟨_, rfl, ?_⟩
                          have n0_ := Aside0.mk (blk_below (g := gb328) (o := .cells #[.int .i64 t325, .int .i64 t326, .string t327] 23 (0, 0)) (by (with_reducible repeat (first | refine blk_drewN ?_ _ | refine blk_drew ?_ | refine blk_alloc ?_ _)); exact BK328.out) hb)
                          have n1_ := Aside0.mk (blk_below (g := gb336) (o := .cells #[.int .i64 t332, .int .i64 t333, .string t334] 23 (0, 0)) (by (with_reducible repeat (first | refine blk_drewN ?_ _ | refine blk_drew ?_ | refine blk_alloc ?_ _)); exact BK336.out) hb)
                          have n2_ := Aside0.mk (blk_below (g := gb344) (o := .cells #[.int .i64 t340, .int .i64 t341, .string t342] 23 (0, 0)) (by (with_reducible repeat (first | refine blk_drewN ?_ _ | refine blk_drew ?_ | refine blk_alloc ?_ _)); exact BK344.out) hb)
                          have n3_ := Aside0.mk (blk_below (g := gb352) (o := .cells #[.int .i64 0, .int .i64 0, .string (⟨#[]⟩ : ByteArray)] 23 (0, 0)) (by (with_reducible repeat (first | refine blk_drewN ?_ _ | refine blk_drew ?_ | refine blk_alloc ?_ _)); exact BK352.out) hb)
                          have n4_ := Aside0.mk (below_step (by repeat (first | (with_reducible first | exact HB.out | apply below_alloc | apply pw_below_drewN | apply below_drew1 | refine below_set ?_ GE328.out | refine below_set ?_ GE336.out | refine below_set ?_ GE344.out | refine below_set ?_ GE352.out) | exact HB.out)) hb)
                          clear BK328
                          clear BK336
                          clear BK344
                          clear BK352
                          clear HB
                          have BK328 := n0_
                          have BK336 := n1_
                          have BK344 := n2_
                          have BK352 := n3_
                          have HB := n4_
                          clear n0_ n1_ n2_ n3_ n4_
                          (try clear hb)
                          (try clear hb2)
                          (try clear hk)
                          (try clear hi)
                          refine hK.out _ _ ⟨(blk_cell BK328.out 0).trans rfl, (blk_cell BK328.out 1).trans rfl, (blk_cell BK328.out 2).trans rfl⟩ (fun hHeld => ?_)
                          clear hK K
                          refine norm_ (a' := ?_) ?_ ?_
                          rotate_left
                          · show Act.put _ (some 31) _ = _
                            simp only [Act.put, List.setIfInBounds_toArray, List.set_cons_zero, List.set_cons_succ, i64_w, i32_w]
                            rfl
                          refine pure_ (i := 3) (N := some 28) (v := ?_) (a' := ?_) #[true, true, true, true, false, false, true, false, false] rfl rfl (any_of HT_.out (by kernel_rfl)) (fun _ _ _ h => h) (Or.inl ⟨by rfl, ?_⟩) ?_ ?_
                          rotate_left
                          · intro w'
                            go_simp
                            with_reducible rfl
                          rotate_left
                          · simp only [Act.put, List.setIfInBounds_toArray, List.set_cons_zero, List.set_cons_succ, i64_w, i32_w]
                            rfl
                          refine pure_ (i := 4) (N := some 32) (v := ?_) (a' := ?_) #[true, true, true, true, true, false, true, false, false] rfl rfl (any_of HT_.out (by kernel_rfl)) (fun _ _ _ h => h) (Or.inl ⟨by rfl, ?_⟩) ?_ ?_
                          rotate_left
                          · intro w'
                            go_simp
                            with_reducible rfl
                          rotate_left
                          · simp only [Act.put, List.setIfInBounds_toArray, List.set_cons_zero, List.set_cons_succ, i64_w, i32_w]
                            rfl
                          refine pure_ (i := 5) (N := some 33) (v := ?_) (a' := ?_) #[true, true, true, true, true, true, true, false, false] rfl rfl (any_of HT_.out (by kernel_rfl)) (fun _ _ _ h => h) (Or.inl ⟨by rfl, ?_⟩) ?_ ?_
                          rotate_left
                          · intro w'
                            go_simp
                            with_reducible rfl
                          rotate_left
                          · simp only [Act.put, List.setIfInBounds_toArray, List.set_cons_zero, List.set_cons_succ, i64_w, i32_w]
                            rfl
                          exact norm_ (by simp only [putAll, Act.put, List.setIfInBounds_toArray, List.set_cons_zero, List.set_cons_succ]) (hCont (gb352) _ ⟨hHeld, (by (with_reducible repeat (first | refine blk_drewN ?_ _ | refine blk_drew ?_ | refine blk_alloc ?_ _)); exact BK328.out), (by (with_reducible repeat (first | refine blk_drewN ?_ _ | refine blk_drew ?_ | refine blk_alloc ?_ _)); exact BK336.out), (by (with_reducible repeat (first | refine blk_drewN ?_ _ | refine blk_drew ?_ | refine blk_alloc ?_ _)); exact BK344.out), (by (with_reducible repeat (first | refine blk_drewN ?_ _ | refine blk_drew ?_ | refine blk_alloc ?_ _)); exact BK352.out), GW352.out, GE352.out, NB328_352.out, NB352_328.out, NB336_352.out, NB352_336.out, NB344_352.out, NB352_344.out, (by repeat (first | (with_reducible first | exact HB.out | apply below_alloc | apply pw_below_drewN | apply below_drew1 | refine below_set ?_ GE328.out | refine below_set ?_ GE336.out | refine below_set ?_ GE344.out | refine below_set ?_ GE352.out) | exact HB.out))⟩)
                      · skip
                        refine box_step ?hg (N := 8) ?hd (cs := #[.int .i64 0, .int .i64 0, .string (⟨#[]⟩ : ByteArray)]) (t := 23) ?hr ?_; (case hd => rfl); (case hg => rfl); (case hr => first | (go_simp; done) | (go_simp; rfl))
                        intro gb352 hg w44 hbox hb
                        have n0_ := Aside0.mk (blk_below (g := gb328) (o := .cells #[.int .i64 t325, .int .i64 t326, .string t327] 23 (0, 0)) (by (with_reducible repeat (first | refine blk_drewN ?_ _ | refine blk_drew ?_ | refine blk_alloc ?_ _)); exact BK328.out) hb)
                        have n1_ := Aside0.mk (blk_below (g := gb336) (o := .cells #[.int .i64 t332, .int .i64 t333, .string t334] 23 (0, 0)) (by (with_reducible repeat (first | refine blk_drewN ?_ _ | refine blk_drew ?_ | refine blk_alloc ?_ _)); exact BK336.out) hb)
                        have n2_ := Aside0.mk (blk_below (g := gb344) (o := .cells #[.int .i64 t340, .int .i64 t341, .string t342] 23 (0, 0)) (by (with_reducible repeat (first | refine blk_drewN ?_ _ | refine blk_drew ?_ | refine blk_alloc ?_ _)); exact BK344.out) hb)
                        have n3_ := Aside0.mk (below_step (by repeat (first | (with_reducible first | exact HB.out | apply below_alloc | apply pw_below_drewN | apply below_drew1 | refine below_set ?_ GE328.out | refine below_set ?_ GE336.out | refine below_set ?_ GE344.out) | exact HB.out)) hb)
                        have n4_ := Aside0.mk (hbox)
                        have n5_ := Aside0.mk ((by rw [hg]; exact (below_size (by repeat (first | (with_reducible first | exact HB.out | apply below_alloc | apply pw_below_drewN | apply below_drew1 | refine below_set ?_ GE328.out | refine below_set ?_ GE336.out | refine below_set ?_ GE344.out) | exact HB.out))) : w.heap.size ≤ gb352))
                        have n6_ := Aside0.mk ((by rw [hg]; exact (below_size (by repeat (first | (with_reducible first | exact HB.out | apply below_alloc | apply pw_below_drewN | apply below_drew1 | refine below_set ?_ GE328.out | refine below_set ?_ GE336.out | refine below_set ?_ GE344.out) | exact HB.out))) : w.heap.size ≤ gb352))
                        have n7_ := Aside0.mk ((by rw [hg]; exact Nat.ne_of_lt (blk_lt (g := gb328) (o := .cells #[.int .i64 t325, .int .i64 t326, .string t327] 23 (0, 0)) (by (with_reducible repeat (first | refine blk_drewN ?_ _ | refine blk_drew ?_ | refine blk_alloc ?_ _)); exact BK328.out)) : gb328 ≠ gb352))
                        have n8_ := Aside0.mk ((by rw [hg]; exact Nat.ne_of_gt (blk_lt (g := gb328) (o := .cells #[.int .i64 t325, .int .i64 t326, .string t327] 23 (0, 0)) (by (with_reducible repeat (first | refine blk_drewN ?_ _ | refine blk_drew ?_ | refine blk_alloc ?_ _)); exact BK328.out)) : gb352 ≠ gb328))
                        have n9_ := Aside0.mk ((by rw [hg]; exact Nat.ne_of_lt (blk_lt (g := gb336) (o := .cells #[.int .i64 t332, .int .i64 t333, .string t334] 23 (0, 0)) (by (with_reducible repeat (first | refine blk_drewN ?_ _ | refine blk_drew ?_ | refine blk_alloc ?_ _)); exact BK336.out)) : gb336 ≠ gb352))
                        have n10_ := Aside0.mk ((by rw [hg]; exact Nat.ne_of_gt (blk_lt (g := gb336) (o := .cells #[.int .i64 t332, .int .i64 t333, .string t334] 23 (0, 0)) (by (with_reducible repeat (first | refine blk_drewN ?_ _ | refine blk_drew ?_ | refine blk_alloc ?_ _)); exact BK336.out)) : gb352 ≠ gb336))
                        have n11_ := Aside0.mk ((by rw [hg]; exact Nat.ne_of_lt (blk_lt (g := gb344) (o := .cells #[.int .i64 t340, .int .i64 t341, .string t342] 23 (0, 0)) (by (with_reducible repeat (first | refine blk_drewN ?_ _ | refine blk_drew ?_ | refine blk_alloc ?_ _)); exact BK344.out)) : gb344 ≠ gb352))
                        have n12_ := Aside0.mk ((by rw [hg]; exact Nat.ne_of_gt (blk_lt (g := gb344) (o := .cells #[.int .i64 t340, .int .i64 t341, .string t342] 23 (0, 0)) (by (with_reducible repeat (first | refine blk_drewN ?_ _ | refine blk_drew ?_ | refine blk_alloc ?_ _)); exact BK344.out)) : gb352 ≠ gb344))
                        clear BK328
                        clear BK336
                        clear BK344
                        clear HB
                        have BK328 := n0_
                        have BK336 := n1_
                        have BK344 := n2_
                        have HB := n3_
                        have BK352 := n4_
                        have GW352 := n5_
                        have GE352 := n6_
                        have NB328_352 := n7_
                        have NB352_328 := n8_
                        have NB336_352 := n9_
                        have NB352_336 := n10_
                        have NB344_352 := n11_
                        have NB352_344 := n12_
                        clear n0_ n1_ n2_ n3_ n4_ n5_ n6_ n7_ n8_ n9_ n10_ n11_ n12_
                        clear hb hbox hg
                        refine hK.out _ _ ⟨(blk_cell BK328.out 0).trans rfl, (blk_cell BK328.out 1).trans rfl, (blk_cell BK328.out 2).trans rfl⟩ (fun hHeld => ?_)
                        clear hK K
                        refine norm_ (a' := ?_) ?_ ?_
                        rotate_left
                        · show Act.put _ (some 8) _ = _
                          simp only [Act.put, List.setIfInBounds_toArray, List.set_cons_zero, List.set_cons_succ, i64_w, i32_w]
                          rfl
                        refine one_ (i := 1) (N := some 30) #[true, true, false, false, false, false, true, false, false] rfl rfl (one_of HT_.out (by kernel_rfl)) (by decide) (fun K hK => ?_)
                        refine goes_ Try.func7 (by kernel_rfl) rfl #[.int .i64 5000] (by rfl) rfl rfl (by (try simp only [List.map_toArray, List.map_cons, List.map_nil]); first | done | rfl | (simp only [List.length_drop, List.length_take]; rfl)) ?_
                        with_reducible refine (marqueelaw02_dec.calls 5000 t345 t346 t347 _ A7.out).mono ?_
                        rintro e w45 ⟨rfl, hb⟩
                        refine ⟨_, rfl, ?_⟩
                        have n0_ := Aside0.mk (blk_below (g := gb328) (o := .cells #[.int .i64 t325, .int .i64 t326, .string t327] 23 (0, 0)) (by (with_reducible repeat (first | refine blk_drewN ?_ _ | refine blk_drew ?_ | refine blk_alloc ?_ _)); exact BK328.out) hb)
                        have n1_ := Aside0.mk (blk_below (g := gb336) (o := .cells #[.int .i64 t332, .int .i64 t333, .string t334] 23 (0, 0)) (by (with_reducible repeat (first | refine blk_drewN ?_ _ | refine blk_drew ?_ | refine blk_alloc ?_ _)); exact BK336.out) hb)
                        have n2_ := Aside0.mk (blk_below (g := gb344) (o := .cells #[.int .i64 t340, .int .i64 t341, .string t342] 23 (0, 0)) (by (with_reducible repeat (first | refine blk_drewN ?_ _ | refine blk_drew ?_ | refine blk_alloc ?_ _)); exact BK344.out) hb)
                        have n3_ := Aside0.mk (blk_below (g := gb352) (o := .cells #[.int .i64 0, .int .i64 0, .string (⟨#[]⟩ : ByteArray)] 23 (0, 0)) (by (with_reducible repeat (first | refine blk_drewN ?_ _ | refine blk_drew ?_ | refine blk_alloc ?_ _)); exact BK352.out) hb)
                        have n4_ := Aside0.mk (below_step (by repeat (first | (with_reducible first | exact HB.out | apply below_alloc | apply pw_below_drewN | apply below_drew1 | refine below_set ?_ GE328.out | refine below_set ?_ GE336.out | refine below_set ?_ GE344.out | refine below_set ?_ GE352.out) | exact HB.out)) hb)
                        clear BK328
                        clear BK336
                        clear BK344
                        clear BK352
                        clear HB
                        have BK328 := n0_
                        have BK336 := n1_
                        have BK344 := n2_
                        have BK352 := n3_
                        have HB := n4_
                        clear n0_ n1_ n2_ n3_ n4_
                        (try clear hb)
                        (try clear hb2)
                        (try clear hk)
                        (try clear hi)
                        refine hK.out _ _ ⟨(blk_cell BK328.out 0).trans rfl, (blk_cell BK328.out 1).trans rfl, (blk_cell BK328.out 2).trans rfl⟩ (fun hHeld => ?_)
                        clear hK K
                        refine norm_ (a' := ?_) ?_ ?_
                        rotate_left
                        · show Act.put _ (some 30) _ = _
                          simp only [Act.put, List.setIfInBounds_toArray, List.set_cons_zero, List.set_cons_succ, i64_w, i32_w]
                          rfl
                        refine one_ (i := 2) (N := some 31) #[true, true, true, false, false, false, true, false, false] rfl rfl (one_of HT_.out (by kernel_rfl)) (by decide) (fun K hK => ?_)
                        refine goes_ Try.func8 (by kernel_rfl) rfl #[.agg #[.int .i64 t325, .int .i64 t326, .string t327], .agg #[.int .i64 t345, .int .i64 t346, .string t347]] (by rfl) rfl rfl (by (try simp only [List.map_toArray, List.map_cons, List.map_nil]); first | done | rfl | (simp only [List.length_drop, List.length_take]; rfl)) ?_
                        with_reducible refine (arith_Mul.calls k t325 t326 t327 t345 t346 t347 t348 t349 t350 t351 _ A8.out).mono ?_
                        rintro e w46 ⟨rfl, hb⟩
                        refine ⟨_, rfl, ?_⟩
                        have n0_ := Aside0.mk (blk_below (g := gb328) (o := .cells #[.int .i64 t325, .int .i64 t326, .string t327] 23 (0, 0)) (by (with_reducible repeat (first | refine blk_drewN ?_ _ | refine blk_drew ?_ | refine blk_alloc ?_ _)); exact BK328.out) hb)
                        have n1_ := Aside0.mk (blk_below (g := gb336) (o := .cells #[.int .i64 t332, .int .i64 t333, .string t334] 23 (0, 0)) (by (with_reducible repeat (first | refine blk_drewN ?_ _ | refine blk_drew ?_ | refine blk_alloc ?_ _)); exact BK336.out) hb)
                        have n2_ := Aside0.mk (blk_below (g := gb344) (o := .cells #[.int .i64 t340, .int .i64 t341, .string t342] 23 (0, 0)) (by (with_reducible repeat (first | refine blk_drewN ?_ _ | refine blk_drew ?_ | refine blk_alloc ?_ _)); exact BK344.out) hb)
                        have n3_ := Aside0.mk (blk_below (g := gb352) (o := .cells #[.int .i64 0, .int .i64 0, .string (⟨#[]⟩ : ByteArray)] 23 (0, 0)) (by (with_reducible repeat (first | refine blk_drewN ?_ _ | refine blk_drew ?_ | refine blk_alloc ?_ _)); exact BK352.out) hb)
                        have n4_ := Aside0.mk (below_step (by repeat (first | (with_reducible first | exact HB.out | apply below_alloc | apply pw_below_drewN | apply below_drew1 | refine below_set ?_ GE328.out | refine below_set ?_ GE336.out | refine below_set ?_ GE344.out | refine below_set ?_ GE352.out) | exact HB.out)) hb)
                        clear BK328
                        clear BK336
                        clear BK344
                        clear BK352
                        clear HB
                        have BK328 := n0_
                        have BK336 := n1_
                        have BK344 := n2_
                        have BK352 := n3_
                        have HB := n4_
                        clear n0_ n1_ n2_ n3_ n4_
                        (try clear hb)
                        (try clear hb2)
                        (try clear hk)
                        (try clear hi)
                        refine hK.out _ _ ⟨(blk_cell BK328.out 0).trans rfl, (blk_cell BK328.out 1).trans rfl, (blk_cell BK328.out 2).trans rfl⟩ (fun hHeld => ?_)
                        clear hK K
                        refine norm_ (a' := ?_) ?_ ?_
                        rotate_left
                        · show Act.put _ (some 31) _ = _
                          simp only [Act.put, List.setIfInBounds_toArray, List.set_cons_zero, List.set_cons_succ, i64_w, i32_w]
                          rfl
                        refine pure_ (i := 3) (N := some 28) (v := ?_) (a' := ?_) #[true, true, true, true, false, false, true, false, false] rfl rfl (any_of HT_.out (by kernel_rfl)) (fun _ _ _ h => h) (Or.inl ⟨by rfl, ?_⟩) ?_ ?_
                        rotate_left
                        · intro w'
                          go_simp
                          with_reducible rfl
                        rotate_left
                        · simp only [Act.put, List.setIfInBounds_toArray, List.set_cons_zero, List.set_cons_succ, i64_w, i32_w]
                          rfl
                        refine pure_ (i := 4) (N := some 32) (v := ?_) (a' := ?_) #[true, true, true, true, true, false, true, false, false] rfl rfl (any_of HT_.out (by kernel_rfl)) (fun _ _ _ h => h) (Or.inl ⟨by rfl, ?_⟩) ?_ ?_
                        rotate_left
                        · intro w'
                          go_simp
                          with_reducible rfl
                        rotate_left
                        · simp only [Act.put, List.setIfInBounds_toArray, List.set_cons_zero, List.set_cons_succ, i64_w, i32_w]
                          rfl
                        refine pure_ (i := 5) (N := some 33) (v := ?_) (a' := ?_) #[true, true, true, true, true, true, true, false, false] rfl rfl (any_of HT_.out (by kernel_rfl)) (fun _ _ _ h => h) (Or.inl ⟨by rfl, ?_⟩) ?_ ?_
                        rotate_left
                        · intro w'
                          go_simp
                          with_reducible rfl
                        rotate_left
                        · simp only [Act.put, List.setIfInBounds_toArray, List.set_cons_zero, List.set_cons_succ, i64_w, i32_w]
                          rfl
                        exact norm_ (by simp only [putAll, Act.put, List.setIfInBounds_toArray, List.set_cons_zero, List.set_cons_succ]) (hCont (gb352) _ ⟨hHeld, (by (with_reducible repeat (first | refine blk_drewN ?_ _ | refine blk_drew ?_ | refine blk_alloc ?_ _)); exact BK328.out), (by (with_reducible repeat (first | refine blk_drewN ?_ _ | refine blk_drew ?_ | refine blk_alloc ?_ _)); exact BK336.out), (by (with_reducible repeat (first | refine blk_drewN ?_ _ | refine blk_drew ?_ | refine blk_alloc ?_ _)); exact BK344.out), (by (with_reducible repeat (first | refine blk_drewN ?_ _ | refine blk_drew ?_ | refine blk_alloc ?_ _)); exact BK352.out), GW352.out, GE352.out, NB328_352.out, NB352_328.out, NB336_352.out, NB352_336.out, NB344_352.out, NB352_344.out, (by repeat (first | (with_reducible first | exact HB.out | apply below_alloc | apply pw_below_drewN | apply below_drew1 | refine below_set ?_ GE328.out | refine below_set ?_ GE336.out | refine below_set ?_ GE344.out | refine below_set ?_ GE352.out) | exact HB.out))⟩)
                    rintro gb352 w47 ⟨hS_, h0_, h1_, h2_, h3_, h4_, h5_, h6_, h7_, h8_, h9_, h10_, h11_, h12_⟩
                    have n0_ : Aside0 (w47.heap[gb328]? = some (.cells #[.int .i64 t325, .int .i64 t326, .string t327] 23 (0, 0))) := ⟨h0_⟩
                    have n1_ : Aside0 (w47.heap[gb336]? = some (.cells #[.int .i64 t332, .int .i64 t333, .string t334] 23 (0, 0))) := ⟨h1_⟩
                    have n2_ : Aside0 (w47.heap[gb344]? = some (.cells #[.int .i64 t340, .int .i64 t341, .string t342] 23 (0, 0))) := ⟨h2_⟩
                    have n3_ : Aside0 (w47.heap[gb352]? = some (.cells #[.int .i64 0, .int .i64 0, .string (⟨#[]⟩ : ByteArray)] 23 (0, 0))) := ⟨h3_⟩
                    have n4_ : Aside0 (w.heap.size ≤ gb352) := ⟨h4_⟩
                    have n5_ : Aside0 (w.heap.size ≤ gb352) := ⟨h5_⟩
                    have n6_ : Aside0 (gb328 ≠ gb352) := ⟨h6_⟩
                    have n7_ : Aside0 (gb352 ≠ gb328) := ⟨h7_⟩
                    have n8_ : Aside0 (gb336 ≠ gb352) := ⟨h8_⟩
                    have n9_ : Aside0 (gb352 ≠ gb336) := ⟨h9_⟩
                    have n10_ : Aside0 (gb344 ≠ gb352) := ⟨h10_⟩
                    have n11_ : Aside0 (gb352 ≠ gb344) := ⟨h11_⟩
                    have n12_ : Aside0 (Below w.heap.size w w47) := ⟨h12_⟩
                    clear BK328
                    clear BK336
                    clear BK344
                    clear HB
                    clear h0_ h1_ h2_ h3_ h4_ h5_ h6_ h7_ h8_ h9_ h10_ h11_ h12_
                    have BK328 := n0_
                    have BK336 := n1_
                    have BK344 := n2_
                    have BK352 := n3_
                    have GW352 := n4_
                    have GE352 := n5_
                    have NB328_352 := n6_
                    have NB352_328 := n7_
                    have NB336_352 := n8_
                    have NB352_336 := n9_
                    have NB344_352 := n10_
                    have NB352_344 := n11_
                    have HB := n12_
                    clear n0_ n1_ n2_ n3_ n4_ n5_ n6_ n7_ n8_ n9_ n10_ n11_ n12_
                    have hHeld : w47.cell? ⟨gb328, 0, none⟩ = some (.int .i64 t325) ∧ w47.cell? ⟨gb328, 1, none⟩ = some (.int .i64 t326) ∧ w47.cell? ⟨gb328, 2, none⟩ = some (.string t327) := hS_
                    refine norm_ (a' := ?_) ?_ ?_
                    rotate_left
                    · simp only [putAll, Act.put, List.setIfInBounds_toArray, List.set_cons_zero, List.set_cons_succ]
                      rfl
                    refine one_ (i := 7) (N := none) #[true, true, true, true, true, true, true, true, false] rfl rfl (one_of HT_.out (by kernel_rfl)) (by decide) (fun K hK => ?_)
                    have hs48 : w47.cell? ⟨gb352, 0, none⟩ = some (.int .i64 0) := (blk_cell BK352.out 0).trans rfl
                    have hfs48 := blk_frozen BK352.out 0
                    have hns48_0 := NB328_352.out
                    have hns48_1 := NB336_352.out
                    have hns48_2 := NB344_352.out
                    have hms48_0 := NB352_328.out
                    have hms48_1 := NB352_336.out
                    have hms48_2 := NB352_344.out
                    have hs49 : w47.cell? ⟨gb352, 1, none⟩ = some (.int .i64 0) := (blk_cell BK352.out 1).trans rfl
                    have hfs49 := blk_frozen BK352.out 1
                    have hns49_0 := NB328_352.out
                    have hns49_1 := NB336_352.out
                    have hns49_2 := NB344_352.out
                    have hms49_0 := NB352_328.out
                    have hms49_1 := NB352_336.out
                    have hms49_2 := NB352_344.out
                    have hs50 : w47.cell? ⟨gb352, 2, none⟩ = some (.string (⟨#[]⟩ : ByteArray)) := (blk_cell BK352.out 2).trans rfl
                    have hfs50 := blk_frozen BK352.out 2
                    have hns50_0 := NB328_352.out
                    have hns50_1 := NB336_352.out
                    have hns50_2 := NB344_352.out
                    have hms50_0 := NB352_328.out
                    have hms50_1 := NB352_336.out
                    have hms50_2 := NB352_344.out
                    refine skip_ (w1 := ?_) (by rfl) rfl ?_ ?_
                    rotate_left
                    · go_simp
                      rfl
                    refine hK.out _ _ ⟨((cell_far (p := ⟨gb352, _, none⟩) NB328_352.out _).trans (((cell_far (p := ⟨gb352, _, none⟩) NB328_352.out _).trans (((cell_far (p := ⟨gb352, _, none⟩) NB328_352.out _).trans (hHeld.1)))))), ((cell_far (p := ⟨gb352, _, none⟩) NB328_352.out _).trans (((cell_far (p := ⟨gb352, _, none⟩) NB328_352.out _).trans (((cell_far (p := ⟨gb352, _, none⟩) NB328_352.out _).trans (hHeld.2.1)))))), ((cell_far (p := ⟨gb352, _, none⟩) NB328_352.out _).trans (((cell_far (p := ⟨gb352, _, none⟩) NB328_352.out _).trans (((cell_far (p := ⟨gb352, _, none⟩) NB328_352.out _).trans (hHeld.2.2))))))⟩ (fun hHeld => ?_)
                    clear hK K
                    refine pure_ (i := 8) (N := some 9) (v := ?_) (a' := ?_) #[true, true, true, true, true, true, true, true, true] rfl rfl (any_of HT_.out (by kernel_rfl)) (fun _ _ _ h => h) (Or.inl ⟨by rfl, ?_⟩) ?_ ?_
                    rotate_left
                    · intro w'
                      go_simp
                      with_reducible rfl
                    rotate_left
                    · simp only [Act.put, List.setIfInBounds_toArray, List.set_cons_zero, List.set_cons_succ, i64_w, i32_w]
                      rfl
                    refine done_ (done_of HT_.out (by kernel_rfl)) ?_
                    have hnb51 := NB352_328.out
                    have hnc51 := NB328_352.out
                    have hnb52 := NB352_336.out
                    have hnc52 := NB336_352.out
                    have hnb53 := NB352_344.out
                    have hnc53 := NB344_352.out
                    have hcz54_0 : w47.cell? ⟨gb352, 0, none⟩ = some (.int .i64 0) := (blk_cell BK352.out 0).trans rfl
                    have hcz54_1 : w47.cell? ⟨gb352, 1, none⟩ = some (.int .i64 0) := (blk_cell BK352.out 1).trans rfl
                    have hcz54_2 : w47.cell? ⟨gb352, 2, none⟩ = some (.string (⟨#[]⟩ : ByteArray)) := (blk_cell BK352.out 2).trans rfl
                    have hfz54_0 := blk_frozen BK352.out 0
                    have hfz54_1 := blk_frozen BK352.out 1
                    have hfz54_2 := blk_frozen BK352.out 2
                    try go_wp2_with (first | ((with_reducible refine gate_callee (f := 10) rfl ?_); refine goesL_ (some 37) rfl rfl Try.func10 (by kernel_rfl) rfl #[.agg #[.int .i64 t348, .int .i64 t349, .string t350], .agg #[.int .i64 t348, .int .i64 t349, .string t350]] rfl (by (try simp only [List.map_toArray, List.map_cons, List.map_nil]); first | done | rfl | (simp only [List.length_drop, List.length_take]; rfl)) ?_; (with_reducible refine (arith_Add.calls k t348 t349 t350 t348 t349 t350 t353 t354 t355 t356 _ A9.out).mono ?_); rintro e w55 ⟨rfl, hb⟩; refine ⟨_, rfl, ?_⟩; have n0_ := Aside0.mk (blk_below (g := gb328) (o := .cells #[.int .i64 t325, .int .i64 t326, .string t327] 23 (0, 0)) (by (with_reducible repeat (first | refine blk_drewN ?_ _ | refine blk_drew ?_ | refine blk_alloc ?_ _)); refine blk_far ?_ NB328_352.out _; (with_reducible repeat (first | refine blk_drewN ?_ _ | refine blk_drew ?_ | refine blk_alloc ?_ _)); refine blk_far ?_ NB328_352.out _; (with_reducible repeat (first | refine blk_drewN ?_ _ | refine blk_drew ?_ | refine blk_alloc ?_ _)); refine blk_far ?_ NB328_352.out _; (with_reducible repeat (first | refine blk_drewN ?_ _ | refine blk_drew ?_ | refine blk_alloc ?_ _)); exact BK328.out) hb); have n1_ := Aside0.mk (blk_below (g := gb336) (o := .cells #[.int .i64 t332, .int .i64 t333, .string t334] 23 (0, 0)) (by (with_reducible repeat (first | refine blk_drewN ?_ _ | refine blk_drew ?_ | refine blk_alloc ?_ _)); refine blk_far ?_ NB336_352.out _; (with_reducible repeat (first | refine blk_drewN ?_ _ | refine blk_drew ?_ | refine blk_alloc ?_ _)); refine blk_far ?_ NB336_352.out _; (with_reducible repeat (first | refine blk_drewN ?_ _ | refine blk_drew ?_ | refine blk_alloc ?_ _)); refine blk_far ?_ NB336_352.out _; (with_reducible repeat (first | refine blk_drewN ?_ _ | refine blk_drew ?_ | refine blk_alloc ?_ _)); exact BK336.out) hb); have n2_ := Aside0.mk (blk_below (g := gb344) (o := .cells #[.int .i64 t340, .int .i64 t341, .string t342] 23 (0, 0)) (by (with_reducible repeat (first | refine blk_drewN ?_ _ | refine blk_drew ?_ | refine blk_alloc ?_ _)); refine blk_far ?_ NB344_352.out _; (with_reducible repeat (first | refine blk_drewN ?_ _ | refine blk_drew ?_ | refine blk_alloc ?_ _)); refine blk_far ?_ NB344_352.out _; (with_reducible repeat (first | refine blk_drewN ?_ _ | refine blk_drew ?_ | refine blk_alloc ?_ _)); refine blk_far ?_ NB344_352.out _; (with_reducible repeat (first | refine blk_drewN ?_ _ | refine blk_drew ?_ | refine blk_alloc ?_ _)); exact BK344.out) hb); have n3_ := Aside0.mk (blk_below (g := gb352) (o := .cells #[.int .i64 t348, .int .i64 t349, .string t350] 23 (0, 0)) (by (with_reducible repeat (first | refine blk_drewN ?_ _ | refine blk_drew ?_ | refine blk_alloc ?_ _)); refine blk_put (cs := #[.int .i64 t348, .int .i64 t349, .string (⟨#[]⟩ : ByteArray)]) ?_ 2 _ rfl; (with_reducible repeat (first | refine blk_drewN ?_ _ | refine blk_drew ?_ | refine blk_alloc ?_ _)); refine blk_put (cs := #[.int .i64 t348, .int .i64 0, .string (⟨#[]⟩ : ByteArray)]) ?_ 1 _ rfl; (with_reducible repeat (first | refine blk_drewN ?_ _ | refine blk_drew ?_ | refine blk_alloc ?_ _)); refine blk_put (cs := #[.int .i64 0, .int .i64 0, .string (⟨#[]⟩ : ByteArray)]) ?_ 0 _ rfl; (with_reducible repeat (first | refine blk_drewN ?_ _ | refine blk_drew ?_ | refine blk_alloc ?_ _)); exact BK352.out) hb); have n4_ := Aside0.mk (below_step (by repeat (first | (with_reducible first | exact HB.out | apply below_alloc | apply pw_below_drewN | apply below_drew1 | refine below_set ?_ GE328.out | refine below_set ?_ GE336.out | refine below_set ?_ GE344.out | refine below_set ?_ GE352.out) | exact HB.out)) hb); clear BK328; clear BK336; clear BK344; clear BK352; clear HB; have BK328 := n0_; have BK336 := n1_; have BK344 := n2_; have BK352 := n3_; have HB := n4_; clear n0_ n1_ n2_ n3_ n4_; (try clear hb); (try clear hb2); (try clear hk); (try clear hi); (try clear A9)) | ((with_reducible refine gate_dst (N := 10) rfl ?_); refine box_event ?hg (N := 10) ?hd (cs := #[.int .i64 0, .int .i64 0, .string (⟨#[]⟩ : ByteArray)]) (t := 23) ?hr ?_; (case hd => rfl); (case hg => rfl); (case hr => first | (go_simp; done) | (go_simp; rfl)); intro gb357 hg w56 hbox hb; have n0_ := Aside0.mk (blk_below (g := gb328) (o := .cells #[.int .i64 t325, .int .i64 t326, .string t327] 23 (0, 0)) (by (with_reducible repeat (first | refine blk_drewN ?_ _ | refine blk_drew ?_ | refine blk_alloc ?_ _)); exact BK328.out) hb); have n1_ := Aside0.mk (blk_below (g := gb336) (o := .cells #[.int .i64 t332, .int .i64 t333, .string t334] 23 (0, 0)) (by (with_reducible repeat (first | refine blk_drewN ?_ _ | refine blk_drew ?_ | refine blk_alloc ?_ _)); exact BK336.out) hb); have n2_ := Aside0.mk (blk_below (g := gb344) (o := .cells #[.int .i64 t340, .int .i64 t341, .string t342] 23 (0, 0)) (by (with_reducible repeat (first | refine blk_drewN ?_ _ | refine blk_drew ?_ | refine blk_alloc ?_ _)); exact BK344.out) hb); have n3_ := Aside0.mk (blk_below (g := gb352) (o := .cells #[.int .i64 t348, .int .i64 t349, .string t350] 23 (0, 0)) (by (with_reducible repeat (first | refine blk_drewN ?_ _ | refine blk_drew ?_ | refine blk_alloc ?_ _)); exact BK352.out) hb); have n4_ := Aside0.mk (below_step (by repeat (first | (with_reducible first | exact HB.out | apply below_alloc | apply pw_below_drewN | apply below_drew1 | refine below_set ?_ GE328.out | refine below_set ?_ GE336.out | refine below_set ?_ GE344.out | refine below_set ?_ GE352.out) | exact HB.out)) hb); have n5_ := Aside0.mk (hbox); have n6_ := Aside0.mk ((by rw [hg]; exact (below_size (by repeat (first | (with_reducible first | exact HB.out | apply below_alloc | apply pw_below_drewN | apply below_drew1 | refine below_set ?_ GE328.out | refine below_set ?_ GE336.out | refine below_set ?_ GE344.out | refine below_set ?_ GE352.out) | exact HB.out))) : w.heap.size ≤ gb357)); have n7_ := Aside0.mk ((by rw [hg]; exact (below_size (by repeat (first | (with_reducible first | exact HB.out | apply below_alloc | apply pw_below_drewN | apply below_drew1 | refine below_set ?_ GE328.out | refine below_set ?_ GE336.out | refine below_set ?_ GE344.out | refine below_set ?_ GE352.out) | exact HB.out))) : w.heap.size ≤ gb357)); have n8_ := Aside0.mk ((by rw [hg]; exact Nat.ne_of_lt (blk_lt (g := gb328) (o := .cells #[.int .i64 t325, .int .i64 t326, .string t327] 23 (0, 0)) (by (with_reducible repeat (first | refine blk_drewN ?_ _ | refine blk_drew ?_ | refine blk_alloc ?_ _)); exact BK328.out)) : gb328 ≠ gb357)); have n9_ := Aside0.mk ((by rw [hg]; exact Nat.ne_of_gt (blk_lt (g := gb328) (o := .cells #[.int .i64 t325, .int .i64 t326, .string t327] 23 (0, 0)) (by (with_reducible repeat (first | refine blk_drewN ?_ _ | refine blk_drew ?_ | refine blk_alloc ?_ _)); exact BK328.out)) : gb357 ≠ gb328)); have n10_ := Aside0.mk ((by rw [hg]; exact Nat.ne_of_lt (blk_lt (g := gb336) (o := .cells #[.int .i64 t332, .int .i64 t333, .string t334] 23 (0, 0)) (by (with_reducible repeat (first | refine blk_drewN ?_ _ | refine blk_drew ?_ | refine blk_alloc ?_ _)); exact BK336.out)) : gb336 ≠ gb357)); have n11_ := Aside0.mk ((by rw [hg]; exact Nat.ne_of_gt (blk_lt (g := gb336) (o := .cells #[.int .i64 t332, .int .i64 t333, .string t334] 23 (0, 0)) (by (with_reducible repeat (first | refine blk_drewN ?_ _ | refine blk_drew ?_ | refine blk_alloc ?_ _)); exact BK336.out)) : gb357 ≠ gb336)); have n12_ := Aside0.mk ((by rw [hg]; exact Nat.ne_of_lt (blk_lt (g := gb344) (o := .cells #[.int .i64 t340, .int .i64 t341, .string t342] 23 (0, 0)) (by (with_reducible repeat (first | refine blk_drewN ?_ _ | refine blk_drew ?_ | refine blk_alloc ?_ _)); exact BK344.out)) : gb344 ≠ gb357)); have n13_ := Aside0.mk ((by rw [hg]; exact Nat.ne_of_gt (blk_lt (g := gb344) (o := .cells #[.int .i64 t340, .int .i64 t341, .string t342] 23 (0, 0)) (by (with_reducible repeat (first | refine blk_drewN ?_ _ | refine blk_drew ?_ | refine blk_alloc ?_ _)); exact BK344.out)) : gb357 ≠ gb344)); have n14_ := Aside0.mk ((by rw [hg]; exact Nat.ne_of_lt (blk_lt (g := gb352) (o := .cells #[.int .i64 t348, .int .i64 t349, .string t350] 23 (0, 0)) (by (with_reducible repeat (first | refine blk_drewN ?_ _ | refine blk_drew ?_ | refine blk_alloc ?_ _)); exact BK352.out)) : gb352 ≠ gb357)); have n15_ := Aside0.mk ((by rw [hg]; exact Nat.ne_of_gt (blk_lt (g := gb352) (o := .cells #[.int .i64 t348, .int .i64 t349, .string t350] 23 (0, 0)) (by (with_reducible repeat (first | refine blk_drewN ?_ _ | refine blk_drew ?_ | refine blk_alloc ?_ _)); exact BK352.out)) : gb357 ≠ gb352)); clear BK328; clear BK336; clear BK344; clear BK352; clear HB; have BK328 := n0_; have BK336 := n1_; have BK344 := n2_; have BK352 := n3_; have HB := n4_; have BK357 := n5_; have GW357 := n6_; have GE357 := n7_; have NB328_357 := n8_; have NB357_328 := n9_; have NB336_357 := n10_; have NB357_336 := n11_; have NB344_357 := n12_; have NB357_344 := n13_; have NB352_357 := n14_; have NB357_352 := n15_; clear n0_ n1_ n2_ n3_ n4_ n5_ n6_ n7_ n8_ n9_ n10_ n11_ n12_ n13_ n14_ n15_; clear hb hbox hg; have hnb57 := NB357_328.out; have hnc57 := NB328_357.out; have hnb58 := NB357_336.out; have hnc58 := NB336_357.out; have hnb59 := NB357_344.out; have hnc59 := NB344_357.out; have hnb60 := NB357_352.out; have hnc60 := NB352_357.out; have hcz61_0 : w56.cell? ⟨gb357, 0, none⟩ = some (.int .i64 0) := (blk_cell BK357.out 0).trans rfl; have hcz61_1 : w56.cell? ⟨gb357, 1, none⟩ = some (.int .i64 0) := (blk_cell BK357.out 1).trans rfl; have hcz61_2 : w56.cell? ⟨gb357, 2, none⟩ = some (.string (⟨#[]⟩ : ByteArray)) := (blk_cell BK357.out 2).trans rfl; have hfz61_0 := blk_frozen BK357.out 0; have hfz61_1 := blk_frozen BK357.out 1; have hfz61_2 := blk_frozen BK357.out 2; have hnb62 := NB328_336.out; have hnc62 := NB336_328.out; have hnb63 := NB328_344.out; have hnc63 := NB344_328.out; have hcz64_0 : w56.cell? ⟨gb328, 0, none⟩ = some (.int .i64 t325) := (blk_cell BK328.out 0).trans rfl; have hcz64_1 : w56.cell? ⟨gb328, 1, none⟩ = some (.int .i64 t326) := (blk_cell BK328.out 1).trans rfl; have hcz64_2 : w56.cell? ⟨gb328, 2, none⟩ = some (.string t327) := (blk_cell BK328.out 2).trans rfl; have hfz64_0 := blk_frozen BK328.out 0; have hfz64_1 := blk_frozen BK328.out 1; have hfz64_2 := blk_frozen BK328.out 2) | ((with_reducible refine gate_callee (f := 11) rfl ?_); refine goesL_ (some 43) rfl rfl Try.func11 (by kernel_rfl) rfl #[.agg #[.int .i64 t325, .int .i64 t326, .string t327], .agg #[.int .i64 t353, .int .i64 t354, .string t355]] rfl (by (try simp only [List.map_toArray, List.map_cons, List.map_nil]); first | done | rfl | (simp only [List.length_drop, List.length_take]; rfl)) ?_; (with_reducible refine (arith_Sub.calls k t325 t326 t327 t353 t354 t355 t358 t359 t360 t361 _ A10.out).mono ?_); rintro e w65 ⟨rfl, hb⟩; refine ⟨_, rfl, ?_⟩; have n0_ := Aside0.mk (blk_below (g := gb328) (o := .cells #[.int .i64 t325, .int .i64 t326, .string t327] 23 (0, 0)) (by (with_reducible repeat (first | refine blk_drewN ?_ _ | refine blk_drew ?_ | refine blk_alloc ?_ _)); refine blk_far ?_ NB328_357.out _; (with_reducible repeat (first | refine blk_drewN ?_ _ | refine blk_drew ?_ | refine blk_alloc ?_ _)); refine blk_far ?_ NB328_357.out _; (with_reducible repeat (first | refine blk_drewN ?_ _ | refine blk_drew ?_ | refine blk_alloc ?_ _)); refine blk_far ?_ NB328_357.out _; (with_reducible repeat (first | refine blk_drewN ?_ _ | refine blk_drew ?_ | refine blk_alloc ?_ _)); exact BK328.out) hb); have n1_ := Aside0.mk (blk_below (g := gb336) (o := .cells #[.int .i64 t332, .int .i64 t333, .string t334] 23 (0, 0)) (by (with_reducible repeat (first | refine blk_drewN ?_ _ | refine blk_drew ?_ | refine blk_alloc ?_ _)); refine blk_far ?_ NB336_357.out _; (with_reducible repeat (first | refine blk_drewN ?_ _ | refine blk_drew ?_ | refine blk_alloc ?_ _)); refine blk_far ?_ NB336_357.out _; (with_reducible repeat (first | refine blk_drewN ?_ _ | refine blk_drew ?_ | refine blk_alloc ?_ _)); refine blk_far ?_ NB336_357.out _; (with_reducible repeat (first | refine blk_drewN ?_ _ | refine blk_drew ?_ | refine blk_alloc ?_ _)); exact BK336.out) hb); have n2_ := Aside0.mk (blk_below (g := gb344) (o := .cells #[.int .i64 t340, .int .i64 t341, .string t342] 23 (0, 0)) (by (with_reducible repeat (first | refine blk_drewN ?_ _ | refine blk_drew ?_ | refine blk_alloc ?_ _)); refine blk_far ?_ NB344_357.out _; (with_reducible repeat (first | refine blk_drewN ?_ _ | refine blk_drew ?_ | refine blk_alloc ?_ _)); refine blk_far ?_ NB344_357.out _; (with_reducible repeat (first | refine blk_drewN ?_ _ | refine blk_drew ?_ | refine blk_alloc ?_ _)); refine blk_far ?_ NB344_357.out _; (with_reducible repeat (first | refine blk_drewN ?_ _ | refine blk_drew ?_ | refine blk_alloc ?_ _)); exact BK344.out) hb); have n3_ := Aside0.mk (blk_below (g := gb352) (o := .cells #[.int .i64 t348, .int .i64 t349, .string t350] 23 (0, 0)) (by (with_reducible repeat (first | refine blk_drewN ?_ _ | refine blk_drew ?_ | refine blk_alloc ?_ _)); refine blk_far ?_ NB352_357.out _; (with_reducible repeat (first | refine blk_drewN ?_ _ | refine blk_drew ?_ | refine blk_alloc ?_ _)); refine blk_far ?_ NB352_357.out _; (with_reducible repeat (first | refine blk_drewN ?_ _ | refine blk_drew ?_ | refine blk_alloc ?_ _)); refine blk_far ?_ NB352_357.out _; (with_reducible repeat (first | refine blk_drewN ?_ _ | refine blk_drew ?_ | refine blk_alloc ?_ _)); exact BK352.out) hb); have n4_ := Aside0.mk (blk_below (g := gb357) (o := .cells #[.int .i64 t353, .int .i64 t354, .string t355] 23 (0, 0)) (by (with_reducible repeat (first | refine blk_drewN ?_ _ | refine blk_drew ?_ | refine blk_alloc ?_ _)); refine blk_put (cs := #[.int .i64 t353, .int .i64 t354, .string (⟨#[]⟩ : ByteArray)]) ?_ 2 _ rfl; (with_reducible repeat (first | refine blk_drewN ?_ _ | refine blk_drew ?_ | refine blk_alloc ?_ _)); refine blk_put (cs := #[.int .i64 t353, .int .i64 0, .string (⟨#[]⟩ : ByteArray)]) ?_ 1 _ rfl; (with_reducible repeat (first | refine blk_drewN ?_ _ | refine blk_drew ?_ | refine blk_alloc ?_ _)); refine blk_put (cs := #[.int .i64 0, .int .i64 0, .string (⟨#[]⟩ : ByteArray)]) ?_ 0 _ rfl; (with_reducible repeat (first | refine blk_drewN ?_ _ | refine blk_drew ?_ | refine blk_alloc ?_ _)); exact BK357.out) hb); have n5_ := Aside0.mk (below_step (by repeat (first | (with_reducible first | exact HB.out | apply below_alloc | apply pw_below_drewN | apply below_drew1 | refine below_set ?_ GE328.out | refine below_set ?_ GE336.out | refine below_set ?_ GE344.out | refine below_set ?_ GE352.out | refine below_set ?_ GE357.out) | exact HB.out)) hb); clear BK328; clear BK336; clear BK344; clear BK352; clear BK357; clear HB; have BK328 := n0_; have BK336 := n1_; have BK344 := n2_; have BK352 := n3_; have BK357 := n4_; have HB := n5_; clear n0_ n1_ n2_ n3_ n4_ n5_; (try clear hb); (try clear hb2); (try clear hk); (try clear hi); (try clear A10)) | ((with_reducible refine gate_dst (N := 12) rfl ?_); refine box_event ?hg (N := 12) ?hd (cs := #[.int .i64 0, .int .i64 0, .string (⟨#[]⟩ : ByteArray)]) (t := 23) ?hr ?_; (case hd => rfl); (case hg => rfl); (case hr => first | (go_simp; done) | (go_simp; rfl)); intro gb362 hg w66 hbox hb; have n0_ := Aside0.mk (blk_below (g := gb328) (o := .cells #[.int .i64 t325, .int .i64 t326, .string t327] 23 (0, 0)) (by (with_reducible repeat (first | refine blk_drewN ?_ _ | refine blk_drew ?_ | refine blk_alloc ?_ _)); exact BK328.out) hb); have n1_ := Aside0.mk (blk_below (g := gb336) (o := .cells #[.int .i64 t332, .int .i64 t333, .string t334] 23 (0, 0)) (by (with_reducible repeat (first | refine blk_drewN ?_ _ | refine blk_drew ?_ | refine blk_alloc ?_ _)); exact BK336.out) hb); have n2_ := Aside0.mk (blk_below (g := gb344) (o := .cells #[.int .i64 t340, .int .i64 t341, .string t342] 23 (0, 0)) (by (with_reducible repeat (first | refine blk_drewN ?_ _ | refine blk_drew ?_ | refine blk_alloc ?_ _)); exact BK344.out) hb); have n3_ := Aside0.mk (blk_below (g := gb352) (o := .cells #[.int .i64 t348, .int .i64 t349, .string t350] 23 (0, 0)) (by (with_reducible repeat (first | refine blk_drewN ?_ _ | refine blk_drew ?_ | refine blk_alloc ?_ _)); exact BK352.out) hb); have n4_ := Aside0.mk (blk_below (g := gb357) (o := .cells #[.int .i64 t353, .int .i64 t354, .string t355] 23 (0, 0)) (by (with_reducible repeat (first | refine blk_drewN ?_ _ | refine blk_drew ?_ | refine blk_alloc ?_ _)); exact BK357.out) hb); have n5_ := Aside0.mk (below_step (by repeat (first | (with_reducible first | exact HB.out | apply below_alloc | apply pw_below_drewN | apply below_drew1 | refine below_set ?_ GE328.out | refine below_set ?_ GE336.out | refine below_set ?_ GE344.out | refine below_set ?_ GE352.out | refine below_set ?_ GE357.out) | exact HB.out)) hb); have n6_ := Aside0.mk (hbox); have n7_ := Aside0.mk ((by rw [hg]; exact (below_size (by repeat (first | (with_reducible first | exact HB.out | apply below_alloc | apply pw_below_drewN | apply below_drew1 | refine below_set ?_ GE328.out | refine below_set ?_ GE336.out | refine below_set ?_ GE344.out | refine below_set ?_ GE352.out | refine below_set ?_ GE357.out) | exact HB.out))) : w.heap.size ≤ gb362)); have n8_ := Aside0.mk ((by rw [hg]; exact (below_size (by repeat (first | (with_reducible first | exact HB.out | apply below_alloc | apply pw_below_drewN | apply below_drew1 | refine below_set ?_ GE328.out | refine below_set ?_ GE336.out | refine below_set ?_ GE344.out | refine below_set ?_ GE352.out | refine below_set ?_ GE357.out) | exact HB.out))) : w.heap.size ≤ gb362)); have n9_ := Aside0.mk ((by rw [hg]; exact Nat.ne_of_lt (blk_lt (g := gb328) (o := .cells #[.int .i64 t325, .int .i64 t326, .string t327] 23 (0, 0)) (by (with_reducible repeat (first | refine blk_drewN ?_ _ | refine blk_drew ?_ | refine blk_alloc ?_ _)); exact BK328.out)) : gb328 ≠ gb362)); have n10_ := Aside0.mk ((by rw [hg]; exact Nat.ne_of_gt (blk_lt (g := gb328) (o := .cells #[.int .i64 t325, .int .i64 t326, .string t327] 23 (0, 0)) (by (with_reducible repeat (first | refine blk_drewN ?_ _ | refine blk_drew ?_ | refine blk_alloc ?_ _)); exact BK328.out)) : gb362 ≠ gb328)); have n11_ := Aside0.mk ((by rw [hg]; exact Nat.ne_of_lt (blk_lt (g := gb336) (o := .cells #[.int .i64 t332, .int .i64 t333, .string t334] 23 (0, 0)) (by (with_reducible repeat (first | refine blk_drewN ?_ _ | refine blk_drew ?_ | refine blk_alloc ?_ _)); exact BK336.out)) : gb336 ≠ gb362)); have n12_ := Aside0.mk ((by rw [hg]; exact Nat.ne_of_gt (blk_lt (g := gb336) (o := .cells #[.int .i64 t332, .int .i64 t333, .string t334] 23 (0, 0)) (by (with_reducible repeat (first | refine blk_drewN ?_ _ | refine blk_drew ?_ | refine blk_alloc ?_ _)); exact BK336.out)) : gb362 ≠ gb336)); have n13_ := Aside0.mk ((by rw [hg]; exact Nat.ne_of_lt (blk_lt (g := gb344) (o := .cells #[.int .i64 t340, .int .i64 t341, .string t342] 23 (0, 0)) (by (with_reducible repeat (first | refine blk_drewN ?_ _ | refine blk_drew ?_ | refine blk_alloc ?_ _)); exact BK344.out)) : gb344 ≠ gb362)); have n14_ := Aside0.mk ((by rw [hg]; exact Nat.ne_of_gt (blk_lt (g := gb344) (o := .cells #[.int .i64 t340, .int .i64 t341, .string t342] 23 (0, 0)) (by (with_reducible repeat (first | refine blk_drewN ?_ _ | refine blk_drew ?_ | refine blk_alloc ?_ _)); exact BK344.out)) : gb362 ≠ gb344)); have n15_ := Aside0.mk ((by rw [hg]; exact Nat.ne_of_lt (blk_lt (g := gb352) (o := .cells #[.int .i64 t348, .int .i64 t349, .string t350] 23 (0, 0)) (by (with_reducible repeat (first | refine blk_drewN ?_ _ | refine blk_drew ?_ | refine blk_alloc ?_ _)); exact BK352.out)) : gb352 ≠ gb362)); have n16_ := Aside0.mk ((by rw [hg]; exact Nat.ne_of_gt (blk_lt (g := gb352) (o := .cells #[.int .i64 t348, .int .i64 t349, .string t350] 23 (0, 0)) (by (with_reducible repeat (first | refine blk_drewN ?_ _ | refine blk_drew ?_ | refine blk_alloc ?_ _)); exact BK352.out)) : gb362 ≠ gb352)); have n17_ := Aside0.mk ((by rw [hg]; exact Nat.ne_of_lt (blk_lt (g := gb357) (o := .cells #[.int .i64 t353, .int .i64 t354, .string t355] 23 (0, 0)) (by (with_reducible repeat (first | refine blk_drewN ?_ _ | refine blk_drew ?_ | refine blk_alloc ?_ _)); exact BK357.out)) : gb357 ≠ gb362)); have n18_ := Aside0.mk ((by rw [hg]; exact Nat.ne_of_gt (blk_lt (g := gb357) (o := .cells #[.int .i64 t353, .int .i64 t354, .string t355] 23 (0, 0)) (by (with_reducible repeat (first | refine blk_drewN ?_ _ | refine blk_drew ?_ | refine blk_alloc ?_ _)); exact BK357.out)) : gb362 ≠ gb357)); clear BK328; clear BK336; clear BK344; clear BK352; clear BK357; clear HB; have BK328 := n0_; have BK336 := n1_; have BK344 := n2_; have BK352 := n3_; have BK357 := n4_; have HB := n5_; have BK362 := n6_; have GW362 := n7_; have GE362 := n8_; have NB328_362 := n9_; have NB362_328 := n10_; have NB336_362 := n11_; have NB362_336 := n12_; have NB344_362 := n13_; have NB362_344 := n14_; have NB352_362 := n15_; have NB362_352 := n16_; have NB357_362 := n17_; have NB362_357 := n18_; clear n0_ n1_ n2_ n3_ n4_ n5_ n6_ n7_ n8_ n9_ n10_ n11_ n12_ n13_ n14_ n15_ n16_ n17_ n18_; clear hb hbox hg; have hnb67 := NB362_328.out; have hnc67 := NB328_362.out; have hnb68 := NB362_336.out; have hnc68 := NB336_362.out; have hnb69 := NB362_344.out; have hnc69 := NB344_362.out; have hnb70 := NB362_352.out; have hnc70 := NB352_362.out; have hnb71 := NB362_357.out; have hnc71 := NB357_362.out; have hcz72_0 : w66.cell? ⟨gb362, 0, none⟩ = some (.int .i64 0) := (blk_cell BK362.out 0).trans rfl; have hcz72_1 : w66.cell? ⟨gb362, 1, none⟩ = some (.int .i64 0) := (blk_cell BK362.out 1).trans rfl; have hcz72_2 : w66.cell? ⟨gb362, 2, none⟩ = some (.string (⟨#[]⟩ : ByteArray)) := (blk_cell BK362.out 2).trans rfl; have hfz72_0 := blk_frozen BK362.out 0; have hfz72_1 := blk_frozen BK362.out 1; have hfz72_2 := blk_frozen BK362.out 2; have hnb73 := NB336_344.out; have hnc73 := NB344_336.out; have hcz74_0 : w66.cell? ⟨gb336, 0, none⟩ = some (.int .i64 t332) := (blk_cell BK336.out 0).trans rfl; have hcz74_1 : w66.cell? ⟨gb336, 1, none⟩ = some (.int .i64 t333) := (blk_cell BK336.out 1).trans rfl; have hcz74_2 : w66.cell? ⟨gb336, 2, none⟩ = some (.string t334) := (blk_cell BK336.out 2).trans rfl; have hfz74_0 := blk_frozen BK336.out 0; have hfz74_1 := blk_frozen BK336.out 1; have hfz74_2 := blk_frozen BK336.out 2; have hcz75_0 : w66.cell? ⟨gb328, 0, none⟩ = some (.int .i64 t325) := (blk_cell BK328.out 0).trans rfl; have hcz75_1 : w66.cell? ⟨gb328, 1, none⟩ = some (.int .i64 t326) := (blk_cell BK328.out 1).trans rfl; have hcz75_2 : w66.cell? ⟨gb328, 2, none⟩ = some (.string t327) := (blk_cell BK328.out 2).trans rfl; have hfz75_0 := blk_frozen BK328.out 0; have hfz75_1 := blk_frozen BK328.out 1; have hfz75_2 := blk_frozen BK328.out 2; have hcz76_0 : w66.cell? ⟨gb344, 0, none⟩ = some (.int .i64 t340) := (blk_cell BK344.out 0).trans rfl; have hcz76_1 : w66.cell? ⟨gb344, 1, none⟩ = some (.int .i64 t341) := (blk_cell BK344.out 1).trans rfl; have hcz76_2 : w66.cell? ⟨gb344, 2, none⟩ = some (.string t342) := (blk_cell BK344.out 2).trans rfl; have hfz76_0 := blk_frozen BK344.out 0; have hfz76_1 := blk_frozen BK344.out 1; have hfz76_2 := blk_frozen BK344.out 2) | (go_at_call 12; (with_reducible refine (marqueelaw02_sure.calls k  t363 _ A20.out).mono ?_); rintro e w77 ⟨rfl, hb⟩; have n0_ := Aside0.mk (blk_below (g := gb328) (o := .cells #[.int .i64 t325, .int .i64 t326, .string t327] 23 (0, 0)) (by (with_reducible repeat (first | refine blk_drewN ?_ _ | refine blk_drew ?_ | refine blk_alloc ?_ _)); refine blk_far ?_ NB328_362.out _; (with_reducible repeat (first | refine blk_drewN ?_ _ | refine blk_drew ?_ | refine blk_alloc ?_ _)); refine blk_far ?_ NB328_362.out _; (with_reducible repeat (first | refine blk_drewN ?_ _ | refine blk_drew ?_ | refine blk_alloc ?_ _)); refine blk_far ?_ NB328_362.out _; (with_reducible repeat (first | refine blk_drewN ?_ _ | refine blk_drew ?_ | refine blk_alloc ?_ _)); exact BK328.out) hb); have n1_ := Aside0.mk (blk_below (g := gb336) (o := .cells #[.int .i64 t332, .int .i64 t333, .string t334] 23 (0, 0)) (by (with_reducible repeat (first | refine blk_drewN ?_ _ | refine blk_drew ?_ | refine blk_alloc ?_ _)); refine blk_far ?_ NB336_362.out _; (with_reducible repeat (first | refine blk_drewN ?_ _ | refine blk_drew ?_ | refine blk_alloc ?_ _)); refine blk_far ?_ NB336_362.out _; (with_reducible repeat (first | refine blk_drewN ?_ _ | refine blk_drew ?_ | refine blk_alloc ?_ _)); refine blk_far ?_ NB336_362.out _; (with_reducible repeat (first | refine blk_drewN ?_ _ | refine blk_drew ?_ | refine blk_alloc ?_ _)); exact BK336.out) hb); have n2_ := Aside0.mk (blk_below (g := gb344) (o := .cells #[.int .i64 t340, .int .i64 t341, .string t342] 23 (0, 0)) (by (with_reducible repeat (first | refine blk_drewN ?_ _ | refine blk_drew ?_ | refine blk_alloc ?_ _)); refine blk_far ?_ NB344_362.out _; (with_reducible repeat (first | refine blk_drewN ?_ _ | refine blk_drew ?_ | refine blk_alloc ?_ _)); refine blk_far ?_ NB344_362.out _; (with_reducible repeat (first | refine blk_drewN ?_ _ | refine blk_drew ?_ | refine blk_alloc ?_ _)); refine blk_far ?_ NB344_362.out _; (with_reducible repeat (first | refine blk_drewN ?_ _ | refine blk_drew ?_ | refine blk_alloc ?_ _)); exact BK344.out) hb); have n3_ := Aside0.mk (blk_below (g := gb352) (o := .cells #[.int .i64 t348, .int .i64 t349, .string t350] 23 (0, 0)) (by (with_reducible repeat (first | refine blk_drewN ?_ _ | refine blk_drew ?_ | refine blk_alloc ?_ _)); refine blk_far ?_ NB352_362.out _; (with_reducible repeat (first | refine blk_drewN ?_ _ | refine blk_drew ?_ | refine blk_alloc ?_ _)); refine blk_far ?_ NB352_362.out _; (with_reducible repeat (first | refine blk_drewN ?_ _ | refine blk_drew ?_ | refine blk_alloc ?_ _)); refine blk_far ?_ NB352_362.out _; (with_reducible repeat (first | refine blk_drewN ?_ _ | refine blk_drew ?_ | refine blk_alloc ?_ _)); exact BK352.out) hb); have n4_ := Aside0.mk (blk_below (g := gb357) (o := .cells #[.int .i64 t353, .int .i64 t354, .string t355] 23 (0, 0)) (by (with_reducible repeat (first | refine blk_drewN ?_ _ | refine blk_drew ?_ | refine blk_alloc ?_ _)); refine blk_far ?_ NB357_362.out _; (with_reducible repeat (first | refine blk_drewN ?_ _ | refine blk_drew ?_ | refine blk_alloc ?_ _)); refine blk_far ?_ NB357_362.out _; (with_reducible repeat (first | refine blk_drewN ?_ _ | refine blk_drew ?_ | refine blk_alloc ?_ _)); refine blk_far ?_ NB357_362.out _; (with_reducible repeat (first | refine blk_drewN ?_ _ | refine blk_drew ?_ | refine blk_alloc ?_ _)); exact BK357.out) hb); have n5_ := Aside0.mk (blk_below (g := gb362) (o := .cells #[.int .i64 t358, .int .i64 t359, .string t360] 23 (0, 0)) (by (with_reducible repeat (first | refine blk_drewN ?_ _ | refine blk_drew ?_ | refine blk_alloc ?_ _)); refine blk_put (cs := #[.int .i64 t358, .int .i64 t359, .string (⟨#[]⟩ : ByteArray)]) ?_ 2 _ rfl; (with_reducible repeat (first | refine blk_drewN ?_ _ | refine blk_drew ?_ | refine blk_alloc ?_ _)); refine blk_put (cs := #[.int .i64 t358, .int .i64 0, .string (⟨#[]⟩ : ByteArray)]) ?_ 1 _ rfl; (with_reducible repeat (first | refine blk_drewN ?_ _ | refine blk_drew ?_ | refine blk_alloc ?_ _)); refine blk_put (cs := #[.int .i64 0, .int .i64 0, .string (⟨#[]⟩ : ByteArray)]) ?_ 0 _ rfl; (with_reducible repeat (first | refine blk_drewN ?_ _ | refine blk_drew ?_ | refine blk_alloc ?_ _)); exact BK362.out) hb); have n6_ := Aside0.mk (below_step (by repeat (first | (with_reducible first | exact HB.out | apply below_alloc | apply pw_below_drewN | apply below_drew1 | refine below_set ?_ GE328.out | refine below_set ?_ GE336.out | refine below_set ?_ GE344.out | refine below_set ?_ GE352.out | refine below_set ?_ GE357.out | refine below_set ?_ GE362.out) | exact HB.out)) hb); clear BK328; clear BK336; clear BK344; clear BK352; clear BK357; clear BK362; clear HB; have BK328 := n0_; have BK336 := n1_; have BK344 := n2_; have BK352 := n3_; have BK357 := n4_; have BK362 := n5_; have HB := n6_; clear n0_ n1_ n2_ n3_ n4_ n5_ n6_; (try clear hb); (try clear hb2); (try clear hk); (try clear hi); (try clear A20)))
                    go_ret
                    exact ⟨by first | rfl | (simp [errW_none, errW_some] <;> rfl) | (simp [*, errW_none, errW_some] <;> rfl), by repeat (first | (with_reducible first | exact HB.out | apply below_alloc | apply pw_below_drewN | apply below_drew1 | refine below_set ?_ GE328.out | refine below_set ?_ GE336.out | refine below_set ?_ GE344.out | refine below_set ?_ GE352.out | refine below_set ?_ GE357.out | refine below_set ?_ GE362.out) | exact HB.out)⟩
                  · rw [if_neg c19] at H
                    exact absurd H (by simp)
                · rw [if_neg c18] at H
                  exact absurd H (by simp)
              · rw [if_neg c17] at H
                exact absurd H (by simp)
            · rw [if_neg c16] at H
              exact absurd H (by simp)
          · rw [if_neg c15] at H
            exact absurd H (by simp)
        · rw [if_neg c14] at H
          exact absurd H (by simp)
      · rw [if_neg c13] at H
        exact absurd H (by simp)
    · rw [if_neg c12] at H
      exact absurd H (by simp)
  · rw [if_neg c11] at H
    exact absurd H (by simp)

/-- THE ONE PURE STATEMENT of marqueelaw02_ArithWide: yours. -/
def marqueelaw02_ArithWide.Pure : Prop := ∀ (a0 : Int), (Lit.int .i64 a0).wf = true → ∃ k, marqueelaw02_ArithWide.f k a0 = some true
theorem marqueelaw02_ArithWide.walk (P : marqueelaw02_ArithWide.Pure) (a0 : Int) (w : World) (w0 : (Lit.int .i64 a0).wf = true) :
    Calls Try.prog 3 #[.int .i64 a0] w fun e w' => e = .returned (.bool true) ∧ Below w.heap.size w w' := by
  obtain ⟨k, h⟩ := P a0 w0
  refine (marqueelaw02_ArithWide.calls k a0 true w h).mono ?_
  rintro e w' ⟨rfl, hd⟩
  exact ⟨rfl, hd⟩

end Go.Proofs.Ytnfolhfnkbidgaa.Print
