-- written by wip/pp.py (a program of this session's own over the kit's printer) out of the translation
import Derived.Test.YtnfolhfnkbidgaaQ
import Derived.Test.YtnfolhfnkbidgaaPx0
import Derived.Test.YtnfolhfnkbidgaaPx1
import Derived.Test.YtnfolhfnkbidgaaPx2
import Derived.Test.YtnfolhfnkbidgaaPx3
import Derived.Test.YtnfolhfnkbidgaaPx4
import Derived.Test.YtnfolhfnkbidgaaPx5
namespace Go.Proofs.Ytnfolhfnkbidgaa.Print
open Go.RowKit Go.Proofs.YtnfolhfnkbidgaaW.PrintWords Go.Proofs.YtnfolhfnkbidgaaW.PrintLast Go.Proofs.YtnfolhfnkbidgaaW.PrintMore
attribute [local go_sem] max2_int min2_int max_two min_two max_three min_three max_four min_four   -- for this text's walks alone
set_option linter.unusedVariables false
set_option linter.unusedSimpArgs false

attribute [local go_sem high] eqA23
/-! ### marqueelaw02_sure: function 12 -/
def marqueelaw02_sure.f (k : Nat)  : Option (Bool) := (marqueelaw02_dec.f 15000).bind fun bt251 => ((marqueelaw02_dec.f 15000).bind fun bt254 => ((arith_Mul.f k bt251.1 bt251.2.1 bt251.2.2 bt254.1 bt254.2.1 bt254.2.2).bind fun bt257 => ((marqueelaw02_num.f 7).bind fun bt262 => ((marqueelaw02_num.f (-2)).bind fun bt265 => ((arith_Div.f k bt262.1 bt262.2.1 bt262.2.2 bt265.1 bt265.2.1 bt265.2.2).bind fun bt268 => ((marqueelaw02_num.f 1).bind fun bt273 => ((marqueelaw02_dec.f 30000).bind fun bt276 => ((arith_Div.f k bt273.1 bt273.2.1 bt273.2.2 bt276.1 bt276.2.1 bt276.2.2).bind fun bt279 => ((marqueelaw02_num.f (-9223372036854775808)).bind fun bt284 => ((arith_Neg.f k bt284.1 bt284.2.1 bt284.2.2).bind fun bt287 => ((marqueelaw02_num.f 1).bind fun bt292 => ((marqueelaw02_dec.f 0).bind fun bt295 => ((arith_Div.f k bt292.1 bt292.2.1 bt292.2.2 bt295.1 bt295.2.1 bt295.2.2).bind fun bt298 => ((marqueelaw02_num.f 1).bind fun bt303 => ((arith_Add.f k 0 0 (⟨#[]⟩ : ByteArray) bt303.1 bt303.2.1 bt303.2.2).bind fun bt306 => ((arith_Add.f k 0 0 (⟨#[]⟩ : ByteArray) 4 0 (⟨#[]⟩ : ByteArray)).bind fun bt311 => ((marqueelaw02_dec.f 22500).bind fun bt316 => (if (bt257.1 == bt316.1 && (bt257.2.1 == bt316.2.1 && (bt257.2.2.1.toList == bt316.2.2.toList))) = true then (if bt257.2.2.2 = 0 then ((marqueelaw02_num.f (-3)).bind fun bt319 => (if (bt268.1 == bt319.1 && (bt268.2.1 == bt319.2.1 && (bt268.2.2.1.toList == bt319.2.2.toList))) = true then (if bt268.2.2.2 = 0 then ((marqueelaw02_dec.f 3333).bind fun bt322 => (if (bt279.1 == bt322.1 && (bt279.2.1 == bt322.2.1 && (bt279.2.2.1.toList == bt322.2.2.toList))) = true then (if bt279.2.2.2 = 0 then (if bt287.2.2.2 = 20 then (if bt298.2.2.2 = 21 then (if (bt306.1 == 0 && (bt306.2.1 == 0 && (bt306.2.2.1.toList == ([] : List UInt8)))) = true then (if bt306.2.2.2 = 0 then (some (bt311.2.2.2 == 22)) else (none)) else (none)) else (none)) else (none)) else (none)) else (none))) else (none)) else (none))) else (none)) else (none)))))))))))))))))))
theorem marqueelaw02_sure.mono : ∀ k, LeO (marqueelaw02_sure.f k ) (marqueelaw02_sure.f (k + 1) ) := by
  intro  k
  unfold marqueelaw02_sure.f
  repeat' first
      | (with_reducible exact arith_Add.mono _ _ _ _ _ _ _)
      | (with_reducible exact arith_Div.mono _ _ _ _ _ _ _)
      | (with_reducible exact arith_Mul.mono _ _ _ _ _ _ _)
      | (with_reducible exact arith_Neg.mono _ _ _ _)
      | (with_reducible exact LeO.refl _)
      | (with_reducible exact LeO.none _)
      | (with_reducible refine LeO.ite ?_ ?_)
      | (with_reducible refine LeO.bind ?_ (fun _ => ?_))
      | exact arith_Add.mono _ _ _ _ _ _ _
      | exact arith_Div.mono _ _ _ _ _ _ _
      | exact arith_Mul.mono _ _ _ _ _ _ _
      | exact arith_Neg.mono _ _ _ _
      | exact LeO.none _
      | refine LeO.ite ?_ ?_
      | refine LeO.bind ?_ (fun _ => ?_)
def marqueelaw02_sure.T8 : Bool × List (List Nat × List Nat) := (true, [([], []), ([], []), ([0, 1], [0, 1]), ([2, 1], [2]), ([3], [3]), ([4, 3], [3, 4]), ([3, 5], [3, 5]), ([6, 3], [6]), ([7], [7]), ([7, 7], [7]), ([8, 9, 7], [7, 8, 9]), ([7, 10], [7, 10]), ([11, 9], [11]), ([12], [12]), ([13, 12], [12, 13]), ([12, 14], [12, 14]), ([15, 12], [15]), ([16], [16]), ([16, 16], [16]), ([17, 18, 16], [16, 17, 18]), ([16, 19], [16, 19]), ([20, 18], [20]), ([21], [21]), ([22, 21], [21, 22]), ([21, 23], [21, 23]), ([24, 21], [24]), ([25], [25]), ([26, 25], [25, 26]), ([25, 27], [25, 27]), ([28, 25], [28]), ([29], [29]), ([30, 29], [29, 30]), ([29, 31], [29, 31]), ([32, 29], [32]), ([33], [33]), ([33], [33]), ([34, 35, 33], [33, 34, 35]), ([33, 36], [33, 36]), ([37, 33], [37]), ([38], [38]), ([39, 38], [38, 39]), ([38, 40], [38, 40]), ([41, 38], [41]), ([42], [42]), ([43, 42], [42, 43]), ([42, 44], [42, 44]), ([45, 42, 0, 1, 2, 3, 4, 5, 6, 7, 8, 9, 10, 11, 12, 13, 14, 15, 16, 17, 18, 19, 20, 21, 22, 23, 24, 25, 26, 27, 28, 29, 30, 31, 32, 33, 34, 35, 36, 37, 38, 39, 40, 41, 42, 43, 44, 45], [45])])
def marqueelaw02_sure.B8 : List Nat := [0, 0, 3, 7, 15, 31, 63, 127, 255, 255, 1023, 2047, 4095, 8191, 16383, 32767, 65535, 131071, 131071, 524287, 1048575, 2097151, 4194303, 8388607, 16777215, 33554431, 67108863, 134217727, 268435455, 536870911, 1073741823, 2147483647, 4294967295, 8589934591, 17179869183, 17179869183, 68719476735, 137438953471, 274877906943, 549755813887, 1099511627775, 2199023255551, 4398046511103, 8796093022207, 17592186044415, 35184372088831, 70368744177663]
theorem marqueelaw02_sure.tab8 : rtab .any (opsOf Try.f12 8) = marqueelaw02_sure.T8 := by kernel_rfl
theorem marqueelaw02_sure.bits8 : waitsOk marqueelaw02_sure.T8.2 marqueelaw02_sure.B8 = true := by kernel_rfl
set_option maxHeartbeats 8000000 in
set_option maxRecDepth 100000 in
theorem marqueelaw02_sure.calls (k : Nat)  (r : Bool) (w : World) (h : marqueelaw02_sure.f k  = some r) :
    Calls Try.prog 12 #[] w fun e w' => e = .returned (.bool r) ∧ Below w.heap.size w w' := by
  have hu23 := Try.underlying23
  have HB := Aside0.mk (Below.refl w.heap.size w)
  have H : ((marqueelaw02_dec.f 15000).bind fun bt251 => ((marqueelaw02_dec.f 15000).bind fun bt254 => ((arith_Mul.f k bt251.1 bt251.2.1 bt251.2.2 bt254.1 bt254.2.1 bt254.2.2).bind fun bt257 => ((marqueelaw02_num.f 7).bind fun bt262 => ((marqueelaw02_num.f (-2)).bind fun bt265 => ((arith_Div.f k bt262.1 bt262.2.1 bt262.2.2 bt265.1 bt265.2.1 bt265.2.2).bind fun bt268 => ((marqueelaw02_num.f 1).bind fun bt273 => ((marqueelaw02_dec.f 30000).bind fun bt276 => ((arith_Div.f k bt273.1 bt273.2.1 bt273.2.2 bt276.1 bt276.2.1 bt276.2.2).bind fun bt279 => ((marqueelaw02_num.f (-9223372036854775808)).bind fun bt284 => ((arith_Neg.f k bt284.1 bt284.2.1 bt284.2.2).bind fun bt287 => ((marqueelaw02_num.f 1).bind fun bt292 => ((marqueelaw02_dec.f 0).bind fun bt295 => ((arith_Div.f k bt292.1 bt292.2.1 bt292.2.2 bt295.1 bt295.2.1 bt295.2.2).bind fun bt298 => ((marqueelaw02_num.f 1).bind fun bt303 => ((arith_Add.f k 0 0 (⟨#[]⟩ : ByteArray) bt303.1 bt303.2.1 bt303.2.2).bind fun bt306 => ((arith_Add.f k 0 0 (⟨#[]⟩ : ByteArray) 4 0 (⟨#[]⟩ : ByteArray)).bind fun bt311 => ((marqueelaw02_dec.f 22500).bind fun bt316 => (if (bt257.1 == bt316.1 && (bt257.2.1 == bt316.2.1 && (bt257.2.2.1.toList == bt316.2.2.toList))) = true then (if bt257.2.2.2 = 0 then ((marqueelaw02_num.f (-3)).bind fun bt319 => (if (bt268.1 == bt319.1 && (bt268.2.1 == bt319.2.1 && (bt268.2.2.1.toList == bt319.2.2.toList))) = true then (if bt268.2.2.2 = 0 then ((marqueelaw02_dec.f 3333).bind fun bt322 => (if (bt279.1 == bt322.1 && (bt279.2.1 == bt322.2.1 && (bt279.2.2.1.toList == bt322.2.2.toList))) = true then (if bt279.2.2.2 = 0 then (if bt287.2.2.2 = 20 then (if bt298.2.2.2 = 21 then (if (bt306.1 == 0 && (bt306.2.1 == 0 && (bt306.2.2.1.toList == ([] : List UInt8)))) = true then (if bt306.2.2.2 = 0 then (some (bt311.2.2.2 == 22)) else (none)) else (none)) else (none)) else (none)) else (none)) else (none))) else (none)) else (none))) else (none)) else (none)))))))))))))))))))) = some r := h
  clear h
  replace H := Option.bind_eq_some_iff.mp H
  obtain ⟨⟨t251, t252, t253⟩, A10, H⟩ := H
  (try dsimp only at H)
  have A1 := Aside0.mk A10
  clear A10
  replace H := Option.bind_eq_some_iff.mp H
  obtain ⟨⟨t254, t255, t256⟩, A20, H⟩ := H
  (try dsimp only at H)
  have A2 := Aside0.mk A20
  clear A20
  replace H := Option.bind_eq_some_iff.mp H
  obtain ⟨⟨t257, t258, t259, t260⟩, A30, H⟩ := H
  (try dsimp only at H)
  have A3 := Aside0.mk A30
  clear A30
  replace H := Option.bind_eq_some_iff.mp H
  obtain ⟨⟨t262, t263, t264⟩, A40, H⟩ := H
  (try dsimp only at H)
  have A4 := Aside0.mk A40
  clear A40
  replace H := Option.bind_eq_some_iff.mp H
  obtain ⟨⟨t265, t266, t267⟩, A50, H⟩ := H
  (try dsimp only at H)
  have A5 := Aside0.mk A50
  clear A50
  replace H := Option.bind_eq_some_iff.mp H
  obtain ⟨⟨t268, t269, t270, t271⟩, A60, H⟩ := H
  (try dsimp only at H)
  have A6 := Aside0.mk A60
  clear A60
  replace H := Option.bind_eq_some_iff.mp H
  obtain ⟨⟨t273, t274, t275⟩, A70, H⟩ := H
  (try dsimp only at H)
  have A7 := Aside0.mk A70
  clear A70
  replace H := Option.bind_eq_some_iff.mp H
  obtain ⟨⟨t276, t277, t278⟩, A80, H⟩ := H
  (try dsimp only at H)
  have A8 := Aside0.mk A80
  clear A80
  replace H := Option.bind_eq_some_iff.mp H
  obtain ⟨⟨t279, t280, t281, t282⟩, A90, H⟩ := H
  (try dsimp only at H)
  have A9 := Aside0.mk A90
  clear A90
  replace H := Option.bind_eq_some_iff.mp H
  obtain ⟨⟨t284, t285, t286⟩, A100, H⟩ := H
  (try dsimp only at H)
  have A10 := Aside0.mk A100
  clear A100
  replace H := Option.bind_eq_some_iff.mp H
  obtain ⟨⟨t287, t288, t289, t290⟩, A110, H⟩ := H
  (try dsimp only at H)
  have A11 := Aside0.mk A110
  clear A110
  replace H := Option.bind_eq_some_iff.mp H
  obtain ⟨⟨t292, t293, t294⟩, A120, H⟩ := H
  (try dsimp only at H)
  have A12 := Aside0.mk A120
  clear A120
  replace H := Option.bind_eq_some_iff.mp H
  obtain ⟨⟨t295, t296, t297⟩, A130, H⟩ := H
  (try dsimp only at H)
  have A13 := Aside0.mk A130
  clear A130
  replace H := Option.bind_eq_some_iff.mp H
  obtain ⟨⟨t298, t299, t300, t301⟩, A140, H⟩ := H
  (try dsimp only at H)
  have A14 := Aside0.mk A140
  clear A140
  replace H := Option.bind_eq_some_iff.mp H
  obtain ⟨⟨t303, t304, t305⟩, A150, H⟩ := H
  (try dsimp only at H)
  have A15 := Aside0.mk A150
  clear A150
  replace H := Option.bind_eq_some_iff.mp H
  obtain ⟨⟨t306, t307, t308, t309⟩, A160, H⟩ := H
  (try dsimp only at H)
  have A16 := Aside0.mk A160
  clear A160
  replace H := Option.bind_eq_some_iff.mp H
  obtain ⟨⟨t311, t312, t313, t314⟩, A170, H⟩ := H
  (try dsimp only at H)
  have A17 := Aside0.mk A170
  clear A170
  replace H := Option.bind_eq_some_iff.mp H
  obtain ⟨⟨t316, t317, t318⟩, A180, H⟩ := H
  (try dsimp only at H)
  have A18 := Aside0.mk A180
  clear A180
  by_cases c19 : (t257 == t316 && (t258 == t317 && (t259.toList == t318.toList))) = true
  · rw [if_pos c19] at H
    have c19b0 : (t257 == t316 && (t258 == t317 && (t259.toList == t318.toList))) = true := c19
    (try (have c19b1 : decide (t257 = t316 && (t258 == t317 && (t259.toList == t318.toList))) = true := by simpa using c19))
    (try (have c19b2 : (t257 == t316 && (t258 == t317 && (t259.toList == t318.toList))) = true := by simpa using c19))
    clear c19
    by_cases c20 : t260 = 0
    · rw [if_pos c20] at H
      have c20b0 : (t260 == 0) = true := beq_iff_eq.mpr c20
      have c20b1 : (t260 != 0) = false := bne_eq_false_iff_eq.mpr c20
      clear c20
      replace H := Option.bind_eq_some_iff.mp H
      obtain ⟨⟨t319, t320, t321⟩, A210, H⟩ := H
      (try dsimp only at H)
      have A21 := Aside0.mk A210
      clear A210
      by_cases c22 : (t268 == t319 && (t269 == t320 && (t270.toList == t321.toList))) = true
      · rw [if_pos c22] at H
        have c22b0 : (t268 == t319 && (t269 == t320 && (t270.toList == t321.toList))) = true := c22
        (try (have c22b1 : decide (t268 = t319 && (t269 == t320 && (t270.toList == t321.toList))) = true := by simpa using c22))
        (try (have c22b2 : (t268 == t319 && (t269 == t320 && (t270.toList == t321.toList))) = true := by simpa using c22))
        clear c22
        by_cases c23 : t271 = 0
        · rw [if_pos c23] at H
          have c23b0 : (t271 == 0) = true := beq_iff_eq.mpr c23
          have c23b1 : (t271 != 0) = false := bne_eq_false_iff_eq.mpr c23
          clear c23
          replace H := Option.bind_eq_some_iff.mp H
          obtain ⟨⟨t322, t323, t324⟩, A240, H⟩ := H
          (try dsimp only at H)
          have A24 := Aside0.mk A240
          clear A240
          by_cases c25 : (t279 == t322 && (t280 == t323 && (t281.toList == t324.toList))) = true
          · rw [if_pos c25] at H
            have c25b0 : (t279 == t322 && (t280 == t323 && (t281.toList == t324.toList))) = true := c25
            (try (have c25b1 : decide (t279 = t322 && (t280 == t323 && (t281.toList == t324.toList))) = true := by simpa using c25))
            (try (have c25b2 : (t279 == t322 && (t280 == t323 && (t281.toList == t324.toList))) = true := by simpa using c25))
            clear c25
            by_cases c26 : t282 = 0
            · rw [if_pos c26] at H
              have c26b0 : (t282 == 0) = true := beq_iff_eq.mpr c26
              have c26b1 : (t282 != 0) = false := bne_eq_false_iff_eq.mpr c26
              clear c26
              by_cases c27 : t290 = 20
              · rw [if_pos c27] at H
                have c27b0 : (t290 == 20) = true := beq_iff_eq.mpr c27
                have c27b1 : (t290 != 20) = false := bne_eq_false_iff_eq.mpr c27
                clear c27
                by_cases c28 : t301 = 21
                · rw [if_pos c28] at H
                  have c28b0 : (t301 == 21) = true := beq_iff_eq.mpr c28
                  have c28b1 : (t301 != 21) = false := bne_eq_false_iff_eq.mpr c28
                  clear c28
                  by_cases c29 : (t306 == 0 && (t307 == 0 && (t308.toList == ([] : List UInt8)))) = true
                  · rw [if_pos c29] at H
                    have c29b0 : (t306 == 0 && (t307 == 0 && (t308.toList == ([] : List UInt8)))) = true := c29
                    (try (have c29e : (t306 == 0 && (t307 == 0 && t308.toList.isEmpty)) = true := by simpa using c29b0))
                    (try (have c29b1 : decide (t306 = 0 && (t307 == 0 && (t308.toList == ([] : List UInt8)))) = true := by simpa using c29))
                    (try (have c29b2 : (t306 == 0 && (t307 == 0 && (t308.toList == ([] : List UInt8)))) = true := by simpa using c29))
                    clear c29
                    by_cases c30 : t309 = 0
                    · rw [if_pos c30] at H
                      have c30b0 : (t309 == 0) = true := beq_iff_eq.mpr c30
                      have c30b1 : (t309 != 0) = false := bne_eq_false_iff_eq.mpr c30
                      clear c30
                      obtain rfl := Option.some.inj H
                      go_enter Try.func12, Try.ntmps12
                      try go_wp2_with (first | ((with_reducible refine gate_callee (f := 7) rfl ?_); refine qgo (some 16) rfl rfl Try.func7 #[.int .i64 15000] rfl ?_; (with_reducible refine (marqueelaw02_dec.calls 15000 t251 t252 t253 _ A1.out).mono ?_); rintro e w31 ⟨rfl, hb⟩; refine ⟨_, rfl, ?_⟩; replace HB := qs HB hb; (try clear hb); (try clear hb2); (try clear hk); (try clear hi); (try clear A1)) | ((with_reducible refine gate_callee (f := 7) rfl ?_); refine qgo (some 17) rfl rfl Try.func7 #[.int .i64 15000] rfl ?_; (with_reducible refine (marqueelaw02_dec.calls 15000 t254 t255 t256 _ A2.out).mono ?_); rintro e w32 ⟨rfl, hb⟩; refine ⟨_, rfl, ?_⟩; replace HB := qs HB hb; (try clear hb); (try clear hb2); (try clear hk); (try clear hi); (try clear A2)) | ((with_reducible refine gate_callee (f := 8) rfl ?_); refine qgo (some 18) rfl rfl Try.func8 #[.agg #[.int .i64 t251, .int .i64 t252, .string t253], .agg #[.int .i64 t254, .int .i64 t255, .string t256]] rfl ?_; (with_reducible refine (arith_Mul.calls k t251 t252 t253 t254 t255 t256 t257 t258 t259 t260 _ A3.out).mono ?_); rintro e w33 ⟨rfl, hb⟩; refine ⟨_, rfl, ?_⟩; replace HB := qs HB hb; (try clear hb); (try clear hb2); (try clear hk); (try clear hi); (try clear A3)) | ((with_reducible refine gate_dst (N := 1) rfl ?_); refine box_event ?hg (N := 1) ?hd (cs := #[.int .i64 0, .int .i64 0, .string (⟨#[]⟩ : ByteArray)]) (t := 23) ?hr ?_; (case hd => rfl); (case hg => rfl); (case hr => first | (go_simp; done) | (go_simp; rfl)); intro gb261 hg w34 hbox hb; have BK261 := Aside0.mk (hbox); have GW261 := qz HB hg; have GE261 := qz HB hg; replace HB := qs HB hb; clear hb hbox hg; obtain ⟨hcz35_0, hcz35_1, hcz35_2, hfz35_0, hfz35_1, hfz35_2⟩ := qc3 BK261) | ((with_reducible refine gate_callee (f := 16) rfl ?_); refine qgo (some 22) rfl rfl Try.func16 #[.int .i64 7] rfl ?_; (with_reducible refine (marqueelaw02_num.calls 7 t262 t263 t264 _ A4.out).mono ?_); rintro e w36 ⟨rfl, hb⟩; refine ⟨_, rfl, ?_⟩; replace BK261 := Aside0.mk (blk_below (g := gb261) (o := .cells #[.int .i64 t257, .int .i64 t258, .string t259] 23 (0, 0)) (by (with_reducible repeat (first | refine blk_drewN ?_ _ | refine blk_drew ?_ | refine blk_alloc ?_ _)); refine blk_put (cs := #[.int .i64 t257, .int .i64 t258, .string (⟨#[]⟩ : ByteArray)]) ?_ 2 _ rfl; (with_reducible repeat (first | refine blk_drewN ?_ _ | refine blk_drew ?_ | refine blk_alloc ?_ _)); refine blk_put (cs := #[.int .i64 t257, .int .i64 0, .string (⟨#[]⟩ : ByteArray)]) ?_ 1 _ rfl; (with_reducible repeat (first | refine blk_drewN ?_ _ | refine blk_drew ?_ | refine blk_alloc ?_ _)); refine blk_put (cs := #[.int .i64 0, .int .i64 0, .string (⟨#[]⟩ : ByteArray)]) ?_ 0 _ rfl; (with_reducible repeat (first | refine blk_drewN ?_ _ | refine blk_drew ?_ | refine blk_alloc ?_ _)); exact BK261.out) hb); replace HB := qs HB hb; (try clear hb); (try clear hb2); (try clear hk); (try clear hi); (try clear A4)) | ((with_reducible refine gate_callee (f := 16) rfl ?_); refine qgo (some 23) rfl rfl Try.func16 #[.int .i64 (-2)] rfl ?_; (with_reducible refine (marqueelaw02_num.calls (-2) t265 t266 t267 _ A5.out).mono ?_); rintro e w37 ⟨rfl, hb⟩; refine ⟨_, rfl, ?_⟩; replace BK261 := qb BK261 hb; replace HB := qs HB hb; (try clear hb); (try clear hb2); (try clear hk); (try clear hi); (try clear A5)) | ((with_reducible refine gate_callee (f := 9) rfl ?_); refine qgo (some 24) rfl rfl Try.func9 #[.agg #[.int .i64 t262, .int .i64 t263, .string t264], .agg #[.int .i64 t265, .int .i64 t266, .string t267]] rfl ?_; (with_reducible refine (arith_Div.calls k t262 t263 t264 t265 t266 t267 t268 t269 t270 t271 _ A6.out).mono ?_); rintro e w38 ⟨rfl, hb⟩; refine ⟨_, rfl, ?_⟩; replace BK261 := qb BK261 hb; replace HB := qs HB hb; (try clear hb); (try clear hb2); (try clear hk); (try clear hi); (try clear A6)) | ((with_reducible refine gate_dst (N := 3) rfl ?_); refine box_event ?hg (N := 3) ?hd (cs := #[.int .i64 0, .int .i64 0, .string (⟨#[]⟩ : ByteArray)]) (t := 23) ?hr ?_; (case hd => rfl); (case hg => rfl); (case hr => first | (go_simp; done) | (go_simp; rfl)); intro gb272 hg w39 hbox hb; have BK272 := Aside0.mk (hbox); have GW272 := qz HB hg; have GE272 := qz HB hg; have NB261_272 := ql BK261 hg; have NB272_261 := qg BK261 hg; replace BK261 := qb BK261 hb; replace HB := qs HB hb; clear hb hbox hg; have hnb40 := NB272_261.out; have hnc40 := NB261_272.out; obtain ⟨hcz41_0, hcz41_1, hcz41_2, hfz41_0, hfz41_1, hfz41_2⟩ := qc3 BK272) | ((with_reducible refine gate_callee (f := 16) rfl ?_); refine qgo (some 28) rfl rfl Try.func16 #[.int .i64 1] rfl ?_; (with_reducible refine (marqueelaw02_num.calls 1 t273 t274 t275 _ A7.out).mono ?_); rintro e w42 ⟨rfl, hb⟩; refine ⟨_, rfl, ?_⟩; replace BK261 := qf BK261 hb; replace BK272 := Aside0.mk (blk_below (g := gb272) (o := .cells #[.int .i64 t268, .int .i64 t269, .string t270] 23 (0, 0)) (by (with_reducible repeat (first | refine blk_drewN ?_ _ | refine blk_drew ?_ | refine blk_alloc ?_ _)); refine blk_put (cs := #[.int .i64 t268, .int .i64 t269, .string (⟨#[]⟩ : ByteArray)]) ?_ 2 _ rfl; (with_reducible repeat (first | refine blk_drewN ?_ _ | refine blk_drew ?_ | refine blk_alloc ?_ _)); refine blk_put (cs := #[.int .i64 t268, .int .i64 0, .string (⟨#[]⟩ : ByteArray)]) ?_ 1 _ rfl; (with_reducible repeat (first | refine blk_drewN ?_ _ | refine blk_drew ?_ | refine blk_alloc ?_ _)); refine blk_put (cs := #[.int .i64 0, .int .i64 0, .string (⟨#[]⟩ : ByteArray)]) ?_ 0 _ rfl; (with_reducible repeat (first | refine blk_drewN ?_ _ | refine blk_drew ?_ | refine blk_alloc ?_ _)); exact BK272.out) hb); replace HB := qs HB hb; (try clear hb); (try clear hb2); (try clear hk); (try clear hi); (try clear A7)) | ((with_reducible refine gate_callee (f := 7) rfl ?_); refine qgo (some 29) rfl rfl Try.func7 #[.int .i64 30000] rfl ?_; (with_reducible refine (marqueelaw02_dec.calls 30000 t276 t277 t278 _ A8.out).mono ?_); rintro e w43 ⟨rfl, hb⟩; refine ⟨_, rfl, ?_⟩; replace BK261 := qb BK261 hb; replace BK272 := qb BK272 hb; replace HB := qs HB hb; (try clear hb); (try clear hb2); (try clear hk); (try clear hi); (try clear A8)) | ((with_reducible refine gate_callee (f := 9) rfl ?_); refine qgo (some 30) rfl rfl Try.func9 #[.agg #[.int .i64 t273, .int .i64 t274, .string t275], .agg #[.int .i64 t276, .int .i64 t277, .string t278]] rfl ?_; (with_reducible refine (arith_Div.calls k t273 t274 t275 t276 t277 t278 t279 t280 t281 t282 _ A9.out).mono ?_); rintro e w44 ⟨rfl, hb⟩; refine ⟨_, rfl, ?_⟩; replace BK261 := qb BK261 hb; replace BK272 := qb BK272 hb; replace HB := qs HB hb; (try clear hb); (try clear hb2); (try clear hk); (try clear hi); (try clear A9)) | ((with_reducible refine gate_dst (N := 5) rfl ?_); refine box_event ?hg (N := 5) ?hd (cs := #[.int .i64 0, .int .i64 0, .string (⟨#[]⟩ : ByteArray)]) (t := 23) ?hr ?_; (case hd => rfl); (case hg => rfl); (case hr => first | (go_simp; done) | (go_simp; rfl)); intro gb283 hg w45 hbox hb; have BK283 := Aside0.mk (hbox); have GW283 := qz HB hg; have GE283 := qz HB hg; have NB261_283 := ql BK261 hg; have NB283_261 := qg BK261 hg; have NB272_283 := ql BK272 hg; have NB283_272 := qg BK272 hg; replace BK261 := qb BK261 hb; replace BK272 := qb BK272 hb; replace HB := qs HB hb; clear hb hbox hg; have hnb46 := NB283_261.out; have hnc46 := NB261_283.out; have hnb47 := NB283_272.out; have hnc47 := NB272_283.out; obtain ⟨hcz48_0, hcz48_1, hcz48_2, hfz48_0, hfz48_1, hfz48_2⟩ := qc3 BK283) | ((with_reducible refine gate_callee (f := 16) rfl ?_); refine qgo (some 34) rfl rfl Try.func16 #[.int .i64 (-9223372036854775808)] rfl ?_; (with_reducible refine (marqueelaw02_num.calls (-9223372036854775808) t284 t285 t286 _ A10.out).mono ?_); rintro e w49 ⟨rfl, hb⟩; refine ⟨_, rfl, ?_⟩; replace BK261 := qf BK261 hb; replace BK272 := qf BK272 hb; replace BK283 := Aside0.mk (blk_below (g := gb283) (o := .cells #[.int .i64 t279, .int .i64 t280, .string t281] 23 (0, 0)) (by (with_reducible repeat (first | refine blk_drewN ?_ _ | refine blk_drew ?_ | refine blk_alloc ?_ _)); refine blk_put (cs := #[.int .i64 t279, .int .i64 t280, .string (⟨#[]⟩ : ByteArray)]) ?_ 2 _ rfl; (with_reducible repeat (first | refine blk_drewN ?_ _ | refine blk_drew ?_ | refine blk_alloc ?_ _)); refine blk_put (cs := #[.int .i64 t279, .int .i64 0, .string (⟨#[]⟩ : ByteArray)]) ?_ 1 _ rfl; (with_reducible repeat (first | refine blk_drewN ?_ _ | refine blk_drew ?_ | refine blk_alloc ?_ _)); refine blk_put (cs := #[.int .i64 0, .int .i64 0, .string (⟨#[]⟩ : ByteArray)]) ?_ 0 _ rfl; (with_reducible repeat (first | refine blk_drewN ?_ _ | refine blk_drew ?_ | refine blk_alloc ?_ _)); exact BK283.out) hb); replace HB := qs HB hb; (try clear hb); (try clear hb2); (try clear hk); (try clear hi); (try clear A10)) | ((with_reducible refine gate_callee (f := 18) rfl ?_); refine qgo (some 35) rfl rfl Try.func18 #[.agg #[.int .i64 t284, .int .i64 t285, .string t286]] rfl ?_; (with_reducible refine (arith_Neg.calls k t284 t285 t286 t287 t288 t289 t290 _ A11.out).mono ?_); rintro e w50 ⟨rfl, hb⟩; refine ⟨_, rfl, ?_⟩; replace BK261 := qb BK261 hb; replace BK272 := qb BK272 hb; replace BK283 := qb BK283 hb; replace HB := qs HB hb; (try clear hb); (try clear hb2); (try clear hk); (try clear hi); (try clear A11)) | ((with_reducible refine gate_dst (N := 7) rfl ?_); refine box_event ?hg (N := 7) ?hd (cs := #[.int .i64 0, .int .i64 0, .string (⟨#[]⟩ : ByteArray)]) (t := 23) ?hr ?_; (case hd => rfl); (case hg => rfl); (case hr => first | (go_simp; done) | (go_simp; rfl)); intro gb291 hg w51 hbox hb; have BK291 := Aside0.mk (hbox); have GW291 := qz HB hg; have GE291 := qz HB hg; have NB261_291 := ql BK261 hg; have NB291_261 := qg BK261 hg; have NB272_291 := ql BK272 hg; have NB291_272 := qg BK272 hg; have NB283_291 := ql BK283 hg; have NB291_283 := qg BK283 hg; replace BK261 := qb BK261 hb; replace BK272 := qb BK272 hb; replace BK283 := qb BK283 hb; replace HB := qs HB hb; clear hb hbox hg; have hnb52 := NB291_261.out; have hnc52 := NB261_291.out; have hnb53 := NB291_272.out; have hnc53 := NB272_291.out; have hnb54 := NB291_283.out; have hnc54 := NB283_291.out; obtain ⟨hcz55_0, hcz55_1, hcz55_2, hfz55_0, hfz55_1, hfz55_2⟩ := qc3 BK291) | ((with_reducible refine gate_callee (f := 16) rfl ?_); refine qgo (some 39) rfl rfl Try.func16 #[.int .i64 1] rfl ?_; (with_reducible refine (marqueelaw02_num.calls 1 t292 t293 t294 _ A12.out).mono ?_); rintro e w56 ⟨rfl, hb⟩; refine ⟨_, rfl, ?_⟩; replace BK261 := qf BK261 hb; replace BK272 := qf BK272 hb; replace BK283 := qf BK283 hb; replace BK291 := Aside0.mk (blk_below (g := gb291) (o := .cells #[.int .i64 t287, .int .i64 t288, .string t289] 23 (0, 0)) (by (with_reducible repeat (first | refine blk_drewN ?_ _ | refine blk_drew ?_ | refine blk_alloc ?_ _)); refine blk_put (cs := #[.int .i64 t287, .int .i64 t288, .string (⟨#[]⟩ : ByteArray)]) ?_ 2 _ rfl; (with_reducible repeat (first | refine blk_drewN ?_ _ | refine blk_drew ?_ | refine blk_alloc ?_ _)); refine blk_put (cs := #[.int .i64 t287, .int .i64 0, .string (⟨#[]⟩ : ByteArray)]) ?_ 1 _ rfl; (with_reducible repeat (first | refine blk_drewN ?_ _ | refine blk_drew ?_ | refine blk_alloc ?_ _)); refine blk_put (cs := #[.int .i64 0, .int .i64 0, .string (⟨#[]⟩ : ByteArray)]) ?_ 0 _ rfl; (with_reducible repeat (first | refine blk_drewN ?_ _ | refine blk_drew ?_ | refine blk_alloc ?_ _)); exact BK291.out) hb); replace HB := qs HB hb; (try clear hb); (try clear hb2); (try clear hk); (try clear hi); (try clear A12)) | ((with_reducible refine gate_callee (f := 7) rfl ?_); refine qgo (some 40) rfl rfl Try.func7 #[.int .i64 0] rfl ?_; (with_reducible refine (marqueelaw02_dec.calls 0 t295 t296 t297 _ A13.out).mono ?_); rintro e w57 ⟨rfl, hb⟩; refine ⟨_, rfl, ?_⟩; replace BK261 := qb BK261 hb; replace BK272 := qb BK272 hb; replace BK283 := qb BK283 hb; replace BK291 := qb BK291 hb; replace HB := qs HB hb; (try clear hb); (try clear hb2); (try clear hk); (try clear hi); (try clear A13)) | ((with_reducible refine gate_callee (f := 9) rfl ?_); refine qgo (some 41) rfl rfl Try.func9 #[.agg #[.int .i64 t292, .int .i64 t293, .string t294], .agg #[.int .i64 t295, .int .i64 t296, .string t297]] rfl ?_; (with_reducible refine (arith_Div.calls k t292 t293 t294 t295 t296 t297 t298 t299 t300 t301 _ A14.out).mono ?_); rintro e w58 ⟨rfl, hb⟩; refine ⟨_, rfl, ?_⟩; replace BK261 := qb BK261 hb; replace BK272 := qb BK272 hb; replace BK283 := qb BK283 hb; replace BK291 := qb BK291 hb; replace HB := qs HB hb; (try clear hb); (try clear hb2); (try clear hk); (try clear hi); (try clear A14)) | ((with_reducible refine gate_dst (N := 9) rfl ?_); refine box_event ?hg (N := 9) ?hd (cs := #[.int .i64 0, .int .i64 0, .string (⟨#[]⟩ : ByteArray)]) (t := 23) ?hr ?_; (case hd => rfl); (case hg => rfl); (case hr => first | (go_simp; done) | (go_simp; rfl)); intro gb302 hg w59 hbox hb; have BK302 := Aside0.mk (hbox); have GW302 := qz HB hg; have GE302 := qz HB hg; have NB261_302 := ql BK261 hg; have NB302_261 := qg BK261 hg; have NB272_302 := ql BK272 hg; have NB302_272 := qg BK272 hg; have NB283_302 := ql BK283 hg; have NB302_283 := qg BK283 hg; have NB291_302 := ql BK291 hg; have NB302_291 := qg BK291 hg; replace BK261 := qb BK261 hb; replace BK272 := qb BK272 hb; replace BK283 := qb BK283 hb; replace BK291 := qb BK291 hb; replace HB := qs HB hb; clear hb hbox hg; have hnb60 := NB302_261.out; have hnc60 := NB261_302.out; have hnb61 := NB302_272.out; have hnc61 := NB272_302.out; have hnb62 := NB302_283.out; have hnc62 := NB283_302.out; have hnb63 := NB302_291.out; have hnc63 := NB291_302.out; obtain ⟨hcz64_0, hcz64_1, hcz64_2, hfz64_0, hfz64_1, hfz64_2⟩ := qc3 BK302) | ((with_reducible refine gate_callee (f := 16) rfl ?_); refine qgo (some 46) rfl rfl Try.func16 #[.int .i64 1] rfl ?_; (with_reducible refine (marqueelaw02_num.calls 1 t303 t304 t305 _ A15.out).mono ?_); rintro e w65 ⟨rfl, hb⟩; refine ⟨_, rfl, ?_⟩; replace BK261 := qf BK261 hb; replace BK272 := qf BK272 hb; replace BK283 := qf BK283 hb; replace BK291 := qf BK291 hb; replace BK302 := Aside0.mk (blk_below (g := gb302) (o := .cells #[.int .i64 t298, .int .i64 t299, .string t300] 23 (0, 0)) (by (with_reducible repeat (first | refine blk_drewN ?_ _ | refine blk_drew ?_ | refine blk_alloc ?_ _)); refine blk_put (cs := #[.int .i64 t298, .int .i64 t299, .string (⟨#[]⟩ : ByteArray)]) ?_ 2 _ rfl; (with_reducible repeat (first | refine blk_drewN ?_ _ | refine blk_drew ?_ | refine blk_alloc ?_ _)); refine blk_put (cs := #[.int .i64 t298, .int .i64 0, .string (⟨#[]⟩ : ByteArray)]) ?_ 1 _ rfl; (with_reducible repeat (first | refine blk_drewN ?_ _ | refine blk_drew ?_ | refine blk_alloc ?_ _)); refine blk_put (cs := #[.int .i64 0, .int .i64 0, .string (⟨#[]⟩ : ByteArray)]) ?_ 0 _ rfl; (with_reducible repeat (first | refine blk_drewN ?_ _ | refine blk_drew ?_ | refine blk_alloc ?_ _)); exact BK302.out) hb); replace HB := qs HB hb; (try clear hb); (try clear hb2); (try clear hk); (try clear hi); (try clear A15)) | ((with_reducible refine gate_callee (f := 10) rfl ?_); refine qgo (some 47) rfl rfl Try.func10 #[.agg #[.int .i64 0, .int .i64 0, .string (⟨#[]⟩ : ByteArray)], .agg #[.int .i64 t303, .int .i64 t304, .string t305]] rfl ?_; (with_reducible refine (arith_Add.calls k 0 0 (⟨#[]⟩ : ByteArray) t303 t304 t305 t306 t307 t308 t309 _ A16.out).mono ?_); rintro e w66 ⟨rfl, hb⟩; refine ⟨_, rfl, ?_⟩; replace BK261 := qb BK261 hb; replace BK272 := qb BK272 hb; replace BK283 := qb BK283 hb; replace BK291 := qb BK291 hb; replace BK302 := qb BK302 hb; replace HB := qs HB hb; (try clear hb); (try clear hb2); (try clear hk); (try clear hi); (try clear A16)) | ((with_reducible refine gate_dst (N := 11) rfl ?_); refine box_event ?hg (N := 11) ?hd (cs := #[.int .i64 0, .int .i64 0, .string (⟨#[]⟩ : ByteArray)]) (t := 23) ?hr ?_; (case hd => rfl); (case hg => rfl); (case hr => first | (go_simp; done) | (go_simp; rfl)); intro gb310 hg w67 hbox hb; have BK310 := Aside0.mk (hbox); have GW310 := qz HB hg; have GE310 := qz HB hg; have NB261_310 := ql BK261 hg; have NB310_261 := qg BK261 hg; have NB272_310 := ql BK272 hg; have NB310_272 := qg BK272 hg; have NB283_310 := ql BK283 hg; have NB310_283 := qg BK283 hg; have NB291_310 := ql BK291 hg; have NB310_291 := qg BK291 hg; have NB302_310 := ql BK302 hg; have NB310_302 := qg BK302 hg; replace BK261 := qb BK261 hb; replace BK272 := qb BK272 hb; replace BK283 := qb BK283 hb; replace BK291 := qb BK291 hb; replace BK302 := qb BK302 hb; replace HB := qs HB hb; clear hb hbox hg; have hnb68 := NB310_261.out; have hnc68 := NB261_310.out; have hnb69 := NB310_272.out; have hnc69 := NB272_310.out; have hnb70 := NB310_283.out; have hnc70 := NB283_310.out; have hnb71 := NB310_291.out; have hnc71 := NB291_310.out; have hnb72 := NB310_302.out; have hnc72 := NB302_310.out; obtain ⟨hcz73_0, hcz73_1, hcz73_2, hfz73_0, hfz73_1, hfz73_2⟩ := qc3 BK310) | ((with_reducible refine gate_callee (f := 10) rfl ?_); refine qgo (some 53) rfl rfl Try.func10 #[.agg #[.int .i64 0, .int .i64 0, .string (⟨#[]⟩ : ByteArray)], .agg #[.int .i64 4, .int .i64 0, .string (⟨#[]⟩ : ByteArray)]] rfl ?_; (with_reducible refine (arith_Add.calls k 0 0 (⟨#[]⟩ : ByteArray) 4 0 (⟨#[]⟩ : ByteArray) t311 t312 t313 t314 _ A17.out).mono ?_); rintro e w74 ⟨rfl, hb⟩; refine ⟨_, rfl, ?_⟩; replace BK261 := qf BK261 hb; replace BK272 := qf BK272 hb; replace BK283 := qf BK283 hb; replace BK291 := qf BK291 hb; replace BK302 := qf BK302 hb; replace BK310 := Aside0.mk (blk_below (g := gb310) (o := .cells #[.int .i64 t306, .int .i64 t307, .string t308] 23 (0, 0)) (by (with_reducible repeat (first | refine blk_drewN ?_ _ | refine blk_drew ?_ | refine blk_alloc ?_ _)); refine blk_put (cs := #[.int .i64 t306, .int .i64 t307, .string (⟨#[]⟩ : ByteArray)]) ?_ 2 _ rfl; (with_reducible repeat (first | refine blk_drewN ?_ _ | refine blk_drew ?_ | refine blk_alloc ?_ _)); refine blk_put (cs := #[.int .i64 t306, .int .i64 0, .string (⟨#[]⟩ : ByteArray)]) ?_ 1 _ rfl; (with_reducible repeat (first | refine blk_drewN ?_ _ | refine blk_drew ?_ | refine blk_alloc ?_ _)); refine blk_put (cs := #[.int .i64 0, .int .i64 0, .string (⟨#[]⟩ : ByteArray)]) ?_ 0 _ rfl; (with_reducible repeat (first | refine blk_drewN ?_ _ | refine blk_drew ?_ | refine blk_alloc ?_ _)); exact BK310.out) hb); replace HB := qs HB hb; (try clear hb); (try clear hb2); (try clear hk); (try clear hi); (try clear A17)) | ((with_reducible refine gate_dst (N := 13) rfl ?_); refine box_event ?hg (N := 13) ?hd (cs := #[.int .i64 0, .int .i64 0, .string (⟨#[]⟩ : ByteArray)]) (t := 23) ?hr ?_; (case hd => rfl); (case hg => rfl); (case hr => first | (go_simp; done) | (go_simp; rfl)); intro gb315 hg w75 hbox hb; have BK315 := Aside0.mk (hbox); have GW315 := qz HB hg; have GE315 := qz HB hg; have NB261_315 := ql BK261 hg; have NB315_261 := qg BK261 hg; have NB272_315 := ql BK272 hg; have NB315_272 := qg BK272 hg; have NB283_315 := ql BK283 hg; have NB315_283 := qg BK283 hg; have NB291_315 := ql BK291 hg; have NB315_291 := qg BK291 hg; have NB302_315 := ql BK302 hg; have NB315_302 := qg BK302 hg; have NB310_315 := ql BK310 hg; have NB315_310 := qg BK310 hg; replace BK261 := qb BK261 hb; replace BK272 := qb BK272 hb; replace BK283 := qb BK283 hb; replace BK291 := qb BK291 hb; replace BK302 := qb BK302 hb; replace BK310 := qb BK310 hb; replace HB := qs HB hb; clear hb hbox hg; have hnb76 := NB315_261.out; have hnc76 := NB261_315.out; have hnb77 := NB315_272.out; have hnc77 := NB272_315.out; have hnb78 := NB315_283.out; have hnc78 := NB283_315.out; have hnb79 := NB315_291.out; have hnc79 := NB291_315.out; have hnb80 := NB315_302.out; have hnc80 := NB302_315.out; have hnb81 := NB315_310.out; have hnc81 := NB310_315.out; obtain ⟨hcz82_0, hcz82_1, hcz82_2, hfz82_0, hfz82_1, hfz82_2⟩ := qc3 BK315))
                      have n0_ : Aside0 ((((w75.setCell ⟨gb315, 0, none⟩ (.int .i64 t311)).setCell ⟨gb315, 1, none⟩ (.int .i64 t312)).setCell ⟨gb315, 2, none⟩ (.string t313)).heap[gb261]? = some (.cells #[.int .i64 t257, .int .i64 t258, .string t259] 23 (0, 0))) := ⟨by (with_reducible repeat (first | refine blk_drewN ?_ _ | refine blk_drew ?_ | refine blk_alloc ?_ _)); refine blk_far ?_ NB261_315.out _; (with_reducible repeat (first | refine blk_drewN ?_ _ | refine blk_drew ?_ | refine blk_alloc ?_ _)); refine blk_far ?_ NB261_315.out _; (with_reducible repeat (first | refine blk_drewN ?_ _ | refine blk_drew ?_ | refine blk_alloc ?_ _)); refine blk_far ?_ NB261_315.out _; (with_reducible repeat (first | refine blk_drewN ?_ _ | refine blk_drew ?_ | refine blk_alloc ?_ _)); exact BK261.out⟩
                      have n1_ : Aside0 ((((w75.setCell ⟨gb315, 0, none⟩ (.int .i64 t311)).setCell ⟨gb315, 1, none⟩ (.int .i64 t312)).setCell ⟨gb315, 2, none⟩ (.string t313)).heap[gb272]? = some (.cells #[.int .i64 t268, .int .i64 t269, .string t270] 23 (0, 0))) := ⟨by (with_reducible repeat (first | refine blk_drewN ?_ _ | refine blk_drew ?_ | refine blk_alloc ?_ _)); refine blk_far ?_ NB272_315.out _; (with_reducible repeat (first | refine blk_drewN ?_ _ | refine blk_drew ?_ | refine blk_alloc ?_ _)); refine blk_far ?_ NB272_315.out _; (with_reducible repeat (first | refine blk_drewN ?_ _ | refine blk_drew ?_ | refine blk_alloc ?_ _)); refine blk_far ?_ NB272_315.out _; (with_reducible repeat (first | refine blk_drewN ?_ _ | refine blk_drew ?_ | refine blk_alloc ?_ _)); exact BK272.out⟩
                      have n2_ : Aside0 ((((w75.setCell ⟨gb315, 0, none⟩ (.int .i64 t311)).setCell ⟨gb315, 1, none⟩ (.int .i64 t312)).setCell ⟨gb315, 2, none⟩ (.string t313)).heap[gb283]? = some (.cells #[.int .i64 t279, .int .i64 t280, .string t281] 23 (0, 0))) := ⟨by (with_reducible repeat (first | refine blk_drewN ?_ _ | refine blk_drew ?_ | refine blk_alloc ?_ _)); refine blk_far ?_ NB283_315.out _; (with_reducible repeat (first | refine blk_drewN ?_ _ | refine blk_drew ?_ | refine blk_alloc ?_ _)); refine blk_far ?_ NB283_315.out _; (with_reducible repeat (first | refine blk_drewN ?_ _ | refine blk_drew ?_ | refine blk_alloc ?_ _)); refine blk_far ?_ NB283_315.out _; (with_reducible repeat (first | refine blk_drewN ?_ _ | refine blk_drew ?_ | refine blk_alloc ?_ _)); exact BK283.out⟩
                      have n3_ : Aside0 ((((w75.setCell ⟨gb315, 0, none⟩ (.int .i64 t311)).setCell ⟨gb315, 1, none⟩ (.int .i64 t312)).setCell ⟨gb315, 2, none⟩ (.string t313)).heap[gb291]? = some (.cells #[.int .i64 t287, .int .i64 t288, .string t289] 23 (0, 0))) := ⟨by (with_reducible repeat (first | refine blk_drewN ?_ _ | refine blk_drew ?_ | refine blk_alloc ?_ _)); refine blk_far ?_ NB291_315.out _; (with_reducible repeat (first | refine blk_drewN ?_ _ | refine blk_drew ?_ | refine blk_alloc ?_ _)); refine blk_far ?_ NB291_315.out _; (with_reducible repeat (first | refine blk_drewN ?_ _ | refine blk_drew ?_ | refine blk_alloc ?_ _)); refine blk_far ?_ NB291_315.out _; (with_reducible repeat (first | refine blk_drewN ?_ _ | refine blk_drew ?_ | refine blk_alloc ?_ _)); exact BK291.out⟩
                      have n4_ : Aside0 ((((w75.setCell ⟨gb315, 0, none⟩ (.int .i64 t311)).setCell ⟨gb315, 1, none⟩ (.int .i64 t312)).setCell ⟨gb315, 2, none⟩ (.string t313)).heap[gb302]? = some (.cells #[.int .i64 t298, .int .i64 t299, .string t300] 23 (0, 0))) := ⟨by (with_reducible repeat (first | refine blk_drewN ?_ _ | refine blk_drew ?_ | refine blk_alloc ?_ _)); refine blk_far ?_ NB302_315.out _; (with_reducible repeat (first | refine blk_drewN ?_ _ | refine blk_drew ?_ | refine blk_alloc ?_ _)); refine blk_far ?_ NB302_315.out _; (with_reducible repeat (first | refine blk_drewN ?_ _ | refine blk_drew ?_ | refine blk_alloc ?_ _)); refine blk_far ?_ NB302_315.out _; (with_reducible repeat (first | refine blk_drewN ?_ _ | refine blk_drew ?_ | refine blk_alloc ?_ _)); exact BK302.out⟩
                      have n5_ : Aside0 ((((w75.setCell ⟨gb315, 0, none⟩ (.int .i64 t311)).setCell ⟨gb315, 1, none⟩ (.int .i64 t312)).setCell ⟨gb315, 2, none⟩ (.string t313)).heap[gb310]? = some (.cells #[.int .i64 t306, .int .i64 t307, .string t308] 23 (0, 0))) := ⟨by (with_reducible repeat (first | refine blk_drewN ?_ _ | refine blk_drew ?_ | refine blk_alloc ?_ _)); refine blk_far ?_ NB310_315.out _; (with_reducible repeat (first | refine blk_drewN ?_ _ | refine blk_drew ?_ | refine blk_alloc ?_ _)); refine blk_far ?_ NB310_315.out _; (with_reducible repeat (first | refine blk_drewN ?_ _ | refine blk_drew ?_ | refine blk_alloc ?_ _)); refine blk_far ?_ NB310_315.out _; (with_reducible repeat (first | refine blk_drewN ?_ _ | refine blk_drew ?_ | refine blk_alloc ?_ _)); exact BK310.out⟩
                      have n6_ : Aside0 ((((w75.setCell ⟨gb315, 0, none⟩ (.int .i64 t311)).setCell ⟨gb315, 1, none⟩ (.int .i64 t312)).setCell ⟨gb315, 2, none⟩ (.string t313)).heap[gb315]? = some (.cells #[.int .i64 t311, .int .i64 t312, .string t313] 23 (0, 0))) := ⟨by (with_reducible repeat (first | refine blk_drewN ?_ _ | refine blk_drew ?_ | refine blk_alloc ?_ _)); refine blk_put (cs := #[.int .i64 t311, .int .i64 t312, .string (⟨#[]⟩ : ByteArray)]) ?_ 2 _ rfl; (with_reducible repeat (first | refine blk_drewN ?_ _ | refine blk_drew ?_ | refine blk_alloc ?_ _)); refine blk_put (cs := #[.int .i64 t311, .int .i64 0, .string (⟨#[]⟩ : ByteArray)]) ?_ 1 _ rfl; (with_reducible repeat (first | refine blk_drewN ?_ _ | refine blk_drew ?_ | refine blk_alloc ?_ _)); refine blk_put (cs := #[.int .i64 0, .int .i64 0, .string (⟨#[]⟩ : ByteArray)]) ?_ 0 _ rfl; (with_reducible repeat (first | refine blk_drewN ?_ _ | refine blk_drew ?_ | refine blk_alloc ?_ _)); exact BK315.out⟩
                      have n7_ : Aside0 (Below w.heap.size w (((w75.setCell ⟨gb315, 0, none⟩ (.int .i64 t311)).setCell ⟨gb315, 1, none⟩ (.int .i64 t312)).setCell ⟨gb315, 2, none⟩ (.string t313))) := ⟨by repeat (first | (with_reducible first | exact HB.out | apply below_alloc | apply pw_below_drewN | apply below_drew1 | refine below_set ?_ GE261.out | refine below_set ?_ GE272.out | refine below_set ?_ GE283.out | refine below_set ?_ GE291.out | refine below_set ?_ GE302.out | refine below_set ?_ GE310.out | refine below_set ?_ GE315.out) | exact HB.out)⟩
                      (try clear BK261)
                      (try clear BK272)
                      (try clear BK283)
                      (try clear BK291)
                      (try clear BK302)
                      (try clear BK310)
                      (try clear BK315)
                      (try clear HB)
                      generalize (((w75.setCell ⟨gb315, 0, none⟩ (.int .i64 t311)).setCell ⟨gb315, 1, none⟩ (.int .i64 t312)).setCell ⟨gb315, 2, none⟩ (.string t313)) = w83 at n0_ n1_ n2_ n3_ n4_ n5_ n6_ n7_ ⊢
                      have BK261 := n0_
                      have BK272 := n1_
                      have BK283 := n2_
                      have BK291 := n3_
                      have BK302 := n4_
                      have BK310 := n5_
                      have BK315 := n6_
                      have HB := n7_
                      clear n0_ n1_ n2_ n3_ n4_ n5_ n6_ n7_
                      replace BK261 := qd BK261
                      replace BK272 := qd BK272
                      replace BK283 := qd BK283
                      replace BK291 := qd BK291
                      replace BK302 := qd BK302
                      replace BK310 := qd BK310
                      replace BK315 := qd BK315
                      replace HB := qe HB
                      refine start_ (n := 47) (S := fun w' => w'.cell? ⟨gb261, 0, none⟩ = some (.int .i64 t257) ∧ w'.cell? ⟨gb261, 1, none⟩ = some (.int .i64 t258) ∧ w'.cell? ⟨gb261, 2, none⟩ = some (.string t259) ∧ w'.cell? ⟨gb272, 0, none⟩ = some (.int .i64 t268) ∧ w'.cell? ⟨gb272, 1, none⟩ = some (.int .i64 t269) ∧ w'.cell? ⟨gb272, 2, none⟩ = some (.string t270) ∧ w'.cell? ⟨gb283, 0, none⟩ = some (.int .i64 t279) ∧ w'.cell? ⟨gb283, 1, none⟩ = some (.int .i64 t280) ∧ w'.cell? ⟨gb283, 2, none⟩ = some (.string t281) ∧ w'.cell? ⟨gb310, 0, none⟩ = some (.int .i64 t306) ∧ w'.cell? ⟨gb310, 1, none⟩ = some (.int .i64 t307) ∧ w'.cell? ⟨gb310, 2, none⟩ = some (.string t308)) (ds := []) #[false, false, false, false, false, false, false, false, false, false, false, false, false, false, false, false, false, false, false, false, false, false, false, false, false, false, false, false, false, false, false, false, false, false, false, false, false, false, false, false, false, false, false, false, false, false, false] (by kernel_rfl) rfl rfl ⟨(blk_cell BK261.out 0).trans rfl, (blk_cell BK261.out 1).trans rfl, (blk_cell BK261.out 2).trans rfl, (blk_cell BK272.out 0).trans rfl, (blk_cell BK272.out 1).trans rfl, (blk_cell BK272.out 2).trans rfl, (blk_cell BK283.out 0).trans rfl, (blk_cell BK283.out 1).trans rfl, (blk_cell BK283.out 2).trans rfl, (blk_cell BK310.out 0).trans rfl, (blk_cell BK310.out 1).trans rfl, (blk_cell BK310.out 2).trans rfl⟩ (fun hHeld => ?_); refine with_tabW marqueelaw02_sure.tab8 marqueelaw02_sure.bits8 (fun HT_ HW_ => ?_)
                      generalize w83.drew = w84 at BK261 BK272 BK283 BK291 BK302 BK310 BK315 HB hHeld ⊢
                      refine take_ (i := 0) (N := some 56) (v := ?_) (a' := ?_) #[true, false, false, false, false, false, false, false, false, false, false, false, false, false, false, false, false, false, false, false, false, false, false, false, false, false, false, false, false, false, false, false, false, false, false, false, false, false, false, false, false, false, false, false, false, false, false] rfl rfl (take_ofW HT_.out HW_.out (by kernel_rfl)) (fun _ _ _ h => h) (Or.inl ⟨by rfl, ?_⟩) hHeld ?_ ?_
                      rotate_left
                      · rintro w' ⟨s0, s1, s2, s3, s4, s5, s6, s7, s8, s9, s10, s11⟩
                        go_simp
                        with_reducible rfl
                      rotate_left
                      · simp only [Act.put, List.setIfInBounds_toArray, List.set_cons_zero, List.set_cons_succ, i64_w, i32_w]
                        rfl
                      refine one_ (i := 1) (N := some 57) #[true, true, false, false, false, false, false, false, false, false, false, false, false, false, false, false, false, false, false, false, false, false, false, false, false, false, false, false, false, false, false, false, false, false, false, false, false, false, false, false, false, false, false, false, false, false, false] rfl rfl (one_of HT_.out (by kernel_rfl)) (by decide) (fun K hK => ?_)
                      refine goes_ Try.func7 (by kernel_rfl) rfl #[.int .i64 22500] (by rfl) rfl rfl (by (try simp only [List.map_toArray, List.map_cons, List.map_nil]); first | done | rfl | (simp only [List.length_drop, List.length_take]; rfl)) ?_
                      with_reducible refine (marqueelaw02_dec.calls 22500 t316 t317 t318 _ A18.out).mono ?_
                      rintro e w85 ⟨rfl, hb⟩
                      refine ⟨_, rfl, ?_⟩
                      replace BK261 := qb BK261 hb
                      replace BK272 := qb BK272 hb
                      replace BK283 := qb BK283 hb
                      replace BK291 := qb BK291 hb
                      replace BK302 := qb BK302 hb
                      replace BK310 := qb BK310 hb
                      replace BK315 := qb BK315 hb
                      replace HB := qs HB hb
                      (try clear hb)
                      (try clear hb2)
                      (try clear hk)
                      (try clear hi)
                      refine hK.out _ _ ⟨(blk_cell BK261.out 0).trans rfl, (blk_cell BK261.out 1).trans rfl, (blk_cell BK261.out 2).trans rfl, (blk_cell BK272.out 0).trans rfl, (blk_cell BK272.out 1).trans rfl, (blk_cell BK272.out 2).trans rfl, (blk_cell BK283.out 0).trans rfl, (blk_cell BK283.out 1).trans rfl, (blk_cell BK283.out 2).trans rfl, (blk_cell BK310.out 0).trans rfl, (blk_cell BK310.out 1).trans rfl, (blk_cell BK310.out 2).trans rfl⟩ (fun hHeld => ?_)
                      clear hK K
                      refine norm_ (a' := ?_) ?_ ?_
                      rotate_left
                      · show Act.put _ (some 57) _ = _
                        simp only [Act.put, List.setIfInBounds_toArray, List.set_cons_zero, List.set_cons_succ, i64_w, i32_w]
                        rfl
                      refine pure_ (i := 2) (N := some 58) (v := ?_) (a' := ?_) #[true, true, true, false, false, false, false, false, false, false, false, false, false, false, false, false, false, false, false, false, false, false, false, false, false, false, false, false, false, false, false, false, false, false, false, false, false, false, false, false, false, false, false, false, false, false, false] rfl rfl (any_of HT_.out (by kernel_rfl)) (fun _ _ _ h => h) (Or.inl ⟨by rfl, ?_⟩) ?_ ?_
                      rotate_left
                      · intro w'
                        go_simp
                        with_reducible rfl
                      rotate_left
                      · simp only [Act.put, List.setIfInBounds_toArray, List.set_cons_zero, List.set_cons_succ, i64_w, i32_w]
                        rfl
                      refine pure_ (i := 3) (N := some 59) (v := ?_) (a' := ?_) #[true, true, true, true, false, false, false, false, false, false, false, false, false, false, false, false, false, false, false, false, false, false, false, false, false, false, false, false, false, false, false, false, false, false, false, false, false, false, false, false, false, false, false, false, false, false, false] rfl rfl (any_of HT_.out (by kernel_rfl)) (fun _ _ _ h => h) (Or.inl ⟨by rfl, ?_⟩) ?_ ?_
                      rotate_left
                      · intro w'
                        go_simp
                        with_reducible rfl
                      rotate_left
                      · simp only [Act.put, List.setIfInBounds_toArray, List.set_cons_zero, List.set_cons_succ, i64_w, i32_w]
                        rfl
                      refine pure_ (i := 4) (N := some 60) (v := ?_) (a' := ?_) #[true, true, true, true, true, false, false, false, false, false, false, false, false, false, false, false, false, false, false, false, false, false, false, false, false, false, false, false, false, false, false, false, false, false, false, false, false, false, false, false, false, false, false, false, false, false, false] rfl rfl (any_of HT_.out (by kernel_rfl)) (fun _ _ _ h => h) (Or.inl ⟨by rfl, ?_⟩) ?_ ?_
                      rotate_left
                      · intro w'
                        go_simp
                        with_reducible rfl
                      rotate_left
                      · simp only [Act.put, List.setIfInBounds_toArray, List.set_cons_zero, List.set_cons_succ, i64_w, i32_w]
                        rfl
                      refine pure_ (i := 5) (N := some 61) (v := ?_) (a' := ?_) #[true, true, true, true, true, true, false, false, false, false, false, false, false, false, false, false, false, false, false, false, false, false, false, false, false, false, false, false, false, false, false, false, false, false, false, false, false, false, false, false, false, false, false, false, false, false, false] rfl rfl (any_of HT_.out (by kernel_rfl)) (fun _ _ _ h => h) (Or.inl ⟨by rfl, ?_⟩) ?_ ?_
                      rotate_left
                      · intro w'
                        go_simp
                        with_reducible rfl
                      rotate_left
                      · simp only [Act.put, List.setIfInBounds_toArray, List.set_cons_zero, List.set_cons_succ, i64_w, i32_w]
                        rfl
                      refine pure_ (i := 6) (N := some 62) (v := ?_) (a' := ?_) #[true, true, true, true, true, true, true, false, false, false, false, false, false, false, false, false, false, false, false, false, false, false, false, false, false, false, false, false, false, false, false, false, false, false, false, false, false, false, false, false, false, false, false, false, false, false, false] rfl rfl (any_of HT_.out (by kernel_rfl)) (fun _ _ _ h => h) (Or.inl ⟨by rfl, ?_⟩) ?_ ?_
                      rotate_left
                      · intro w'
                        go_simp
                        with_reducible rfl
                      rotate_left
                      · simp only [Act.put, List.setIfInBounds_toArray, List.set_cons_zero, List.set_cons_succ, i64_w, i32_w]
                        rfl
                      refine pure_ (i := 7) (N := some 63) (v := ?_) (a' := ?_) #[true, true, true, true, true, true, true, true, false, false, false, false, false, false, false, false, false, false, false, false, false, false, false, false, false, false, false, false, false, false, false, false, false, false, false, false, false, false, false, false, false, false, false, false, false, false, false] rfl rfl (any_of HT_.out (by kernel_rfl)) (fun _ _ _ h => h) (Or.inl ⟨by rfl, ?_⟩) ?_ ?_
                      rotate_left
                      · intro w'
                        go_simp
                        with_reducible rfl
                      rotate_left
                      · simp only [Act.put, List.setIfInBounds_toArray, List.set_cons_zero, List.set_cons_succ, i64_w, i32_w]
                        rfl
                      refine take_ (i := 8) (N := some 64) (v := ?_) (a' := ?_) #[true, true, true, true, true, true, true, true, true, false, false, false, false, false, false, false, false, false, false, false, false, false, false, false, false, false, false, false, false, false, false, false, false, false, false, false, false, false, false, false, false, false, false, false, false, false, false] rfl rfl (take_ofW HT_.out HW_.out (by kernel_rfl)) (fun _ _ _ h => h) (Or.inl ⟨by rfl, ?_⟩) hHeld ?_ ?_
                      rotate_left
                      · rintro w' ⟨s0, s1, s2, s3, s4, s5, s6, s7, s8, s9, s10, s11⟩
                        go_simp
                        with_reducible rfl
                      rotate_left
                      · simp only [Act.put, List.setIfInBounds_toArray, List.set_cons_zero, List.set_cons_succ, i64_w, i32_w]
                        rfl
                      refine one_ (i := 9) (N := some 65) #[true, true, true, true, true, true, true, true, true, true, false, false, false, false, false, false, false, false, false, false, false, false, false, false, false, false, false, false, false, false, false, false, false, false, false, false, false, false, false, false, false, false, false, false, false, false, false] rfl rfl (one_of HT_.out (by kernel_rfl)) (by decide) (fun K hK => ?_)
                      refine goes_ Try.func16 (by kernel_rfl) rfl #[.int .i64 (-3)] (by rfl) rfl rfl (by (try simp only [List.map_toArray, List.map_cons, List.map_nil]); first | done | rfl | (simp only [List.length_drop, List.length_take]; rfl)) ?_
                      with_reducible refine (marqueelaw02_num.calls (-3) t319 t320 t321 _ A21.out).mono ?_
                      rintro e w86 ⟨rfl, hb⟩
                      refine ⟨_, rfl, ?_⟩
                      replace BK261 := qb BK261 hb
                      replace BK272 := qb BK272 hb
                      replace BK283 := qb BK283 hb
                      replace BK291 := qb BK291 hb
                      replace BK302 := qb BK302 hb
                      replace BK310 := qb BK310 hb
                      replace BK315 := qb BK315 hb
                      replace HB := qs HB hb
                      (try clear hb)
                      (try clear hb2)
                      (try clear hk)
                      (try clear hi)
                      refine hK.out _ _ ⟨(blk_cell BK261.out 0).trans rfl, (blk_cell BK261.out 1).trans rfl, (blk_cell BK261.out 2).trans rfl, (blk_cell BK272.out 0).trans rfl, (blk_cell BK272.out 1).trans rfl, (blk_cell BK272.out 2).trans rfl, (blk_cell BK283.out 0).trans rfl, (blk_cell BK283.out 1).trans rfl, (blk_cell BK283.out 2).trans rfl, (blk_cell BK310.out 0).trans rfl, (blk_cell BK310.out 1).trans rfl, (blk_cell BK310.out 2).trans rfl⟩ (fun hHeld => ?_)
                      clear hK K
                      refine norm_ (a' := ?_) ?_ ?_
                      rotate_left
                      · show Act.put _ (some 65) _ = _
                        simp only [Act.put, List.setIfInBounds_toArray, List.set_cons_zero, List.set_cons_succ, i64_w, i32_w]
                        rfl
                      refine pure_ (i := 10) (N := some 66) (v := ?_) (a' := ?_) #[true, true, true, true, true, true, true, true, true, true, true, false, false, false, false, false, false, false, false, false, false, false, false, false, false, false, false, false, false, false, false, false, false, false, false, false, false, false, false, false, false, false, false, false, false, false, false] rfl rfl (any_of HT_.out (by kernel_rfl)) (fun _ _ _ h => h) (Or.inl ⟨by rfl, ?_⟩) ?_ ?_
                      rotate_left
                      · intro w'
                        go_simp
                        with_reducible rfl
                      rotate_left
                      · simp only [Act.put, List.setIfInBounds_toArray, List.set_cons_zero, List.set_cons_succ, i64_w, i32_w]
                        rfl
                      refine pure_ (i := 11) (N := some 67) (v := ?_) (a' := ?_) #[true, true, true, true, true, true, true, true, true, true, true, true, false, false, false, false, false, false, false, false, false, false, false, false, false, false, false, false, false, false, false, false, false, false, false, false, false, false, false, false, false, false, false, false, false, false, false] rfl rfl (any_of HT_.out (by kernel_rfl)) (fun _ _ _ h => h) (Or.inl ⟨by rfl, ?_⟩) ?_ ?_
                      rotate_left
                      · intro w'
                        go_simp
                        with_reducible rfl
                      rotate_left
                      · simp only [Act.put, List.setIfInBounds_toArray, List.set_cons_zero, List.set_cons_succ, i64_w, i32_w]
                        rfl
                      refine pure_ (i := 12) (N := some 68) (v := ?_) (a' := ?_) #[true, true, true, true, true, true, true, true, true, true, true, true, true, false, false, false, false, false, false, false, false, false, false, false, false, false, false, false, false, false, false, false, false, false, false, false, false, false, false, false, false, false, false, false, false, false, false] rfl rfl (any_of HT_.out (by kernel_rfl)) (fun _ _ _ h => h) (Or.inl ⟨by rfl, ?_⟩) ?_ ?_
                      rotate_left
                      · intro w'
                        go_simp
                        with_reducible rfl
                      rotate_left
                      · simp only [Act.put, List.setIfInBounds_toArray, List.set_cons_zero, List.set_cons_succ, i64_w, i32_w]
                        rfl
                      refine pure_ (i := 13) (N := some 69) (v := ?_) (a' := ?_) #[true, true, true, true, true, true, true, true, true, true, true, true, true, true, false, false, false, false, false, false, false, false, false, false, false, false, false, false, false, false, false, false, false, false, false, false, false, false, false, false, false, false, false, false, false, false, false] rfl rfl (any_of HT_.out (by kernel_rfl)) (fun _ _ _ h => h) (Or.inl ⟨by rfl, ?_⟩) ?_ ?_
                      rotate_left
                      · intro w'
                        go_simp
                        with_reducible rfl
                      rotate_left
                      · simp only [Act.put, List.setIfInBounds_toArray, List.set_cons_zero, List.set_cons_succ, i64_w, i32_w]
                        rfl
                      refine pure_ (i := 14) (N := some 70) (v := ?_) (a' := ?_) #[true, true, true, true, true, true, true, true, true, true, true, true, true, true, true, false, false, false, false, false, false, false, false, false, false, false, false, false, false, false, false, false, false, false, false, false, false, false, false, false, false, false, false, false, false, false, false] rfl rfl (any_of HT_.out (by kernel_rfl)) (fun _ _ _ h => h) (Or.inl ⟨by rfl, ?_⟩) ?_ ?_
                      rotate_left
                      · intro w'
                        go_simp
                        with_reducible rfl
                      rotate_left
                      · simp only [Act.put, List.setIfInBounds_toArray, List.set_cons_zero, List.set_cons_succ, i64_w, i32_w]
                        rfl
                      refine pure_ (i := 15) (N := some 71) (v := ?_) (a' := ?_) #[true, true, true, true, true, true, true, true, true, true, true, true, true, true, true, true, false, false, false, false, false, false, false, false, false, false, false, false, false, false, false, false, false, false, false, false, false, false, false, false, false, false, false, false, false, false, false] rfl rfl (any_of HT_.out (by kernel_rfl)) (fun _ _ _ h => h) (Or.inl ⟨by rfl, ?_⟩) ?_ ?_
                      rotate_left
                      · intro w'
                        go_simp
                        with_reducible rfl
                      rotate_left
                      · simp only [Act.put, List.setIfInBounds_toArray, List.set_cons_zero, List.set_cons_succ, i64_w, i32_w]
                        rfl
                      refine pure_ (i := 16) (N := some 72) (v := ?_) (a' := ?_) #[true, true, true, true, true, true, true, true, true, true, true, true, true, true, true, true, true, false, false, false, false, false, false, false, false, false, false, false, false, false, false, false, false, false, false, false, false, false, false, false, false, false, false, false, false, false, false] rfl rfl (any_of HT_.out (by kernel_rfl)) (fun _ _ _ h => h) (Or.inl ⟨by rfl, ?_⟩) ?_ ?_
                      rotate_left
                      · intro w'
                        go_simp
                        with_reducible rfl
                      rotate_left
                      · simp only [Act.put, List.setIfInBounds_toArray, List.set_cons_zero, List.set_cons_succ, i64_w, i32_w]
                        rfl
                      refine take_ (i := 17) (N := some 73) (v := ?_) (a' := ?_) #[true, true, true, true, true, true, true, true, true, true, true, true, true, true, true, true, true, true, false, false, false, false, false, false, false, false, false, false, false, false, false, false, false, false, false, false, false, false, false, false, false, false, false, false, false, false, false] rfl rfl (take_ofW HT_.out HW_.out (by kernel_rfl)) (fun _ _ _ h => h) (Or.inl ⟨by rfl, ?_⟩) hHeld ?_ ?_
                      rotate_left
                      · rintro w' ⟨s0, s1, s2, s3, s4, s5, s6, s7, s8, s9, s10, s11⟩
                        go_simp
                        with_reducible rfl
                      rotate_left
                      · simp only [Act.put, List.setIfInBounds_toArray, List.set_cons_zero, List.set_cons_succ, i64_w, i32_w]
                        rfl
                      refine one_ (i := 18) (N := some 74) #[true, true, true, true, true, true, true, true, true, true, true, true, true, true, true, true, true, true, true, false, false, false, false, false, false, false, false, false, false, false, false, false, false, false, false, false, false, false, false, false, false, false, false, false, false, false, false] rfl rfl (one_of HT_.out (by kernel_rfl)) (by decide) (fun K hK => ?_)
                      refine goes_ Try.func7 (by kernel_rfl) rfl #[.int .i64 3333] (by rfl) rfl rfl (by (try simp only [List.map_toArray, List.map_cons, List.map_nil]); first | done | rfl | (simp only [List.length_drop, List.length_take]; rfl)) ?_
                      with_reducible refine (marqueelaw02_dec.calls 3333 t322 t323 t324 _ A24.out).mono ?_
                      rintro e w87 ⟨rfl, hb⟩
                      refine ⟨_, rfl, ?_⟩
                      replace BK261 := qb BK261 hb
                      replace BK272 := qb BK272 hb
                      replace BK283 := qb BK283 hb
                      replace BK291 := qb BK291 hb
                      replace BK302 := qb BK302 hb
                      replace BK310 := qb BK310 hb
                      replace BK315 := qb BK315 hb
                      replace HB := qs HB hb
                      (try clear hb)
                      (try clear hb2)
                      (try clear hk)
                      (try clear hi)
                      refine hK.out _ _ ⟨(blk_cell BK261.out 0).trans rfl, (blk_cell BK261.out 1).trans rfl, (blk_cell BK261.out 2).trans rfl, (blk_cell BK272.out 0).trans rfl, (blk_cell BK272.out 1).trans rfl, (blk_cell BK272.out 2).trans rfl, (blk_cell BK283.out 0).trans rfl, (blk_cell BK283.out 1).trans rfl, (blk_cell BK283.out 2).trans rfl, (blk_cell BK310.out 0).trans rfl, (blk_cell BK310.out 1).trans rfl, (blk_cell BK310.out 2).trans rfl⟩ (fun hHeld => ?_)
                      clear hK K
                      refine norm_ (a' := ?_) ?_ ?_
                      rotate_left
                      · show Act.put _ (some 74) _ = _
                        simp only [Act.put, List.setIfInBounds_toArray, List.set_cons_zero, List.set_cons_succ, i64_w, i32_w]
                        rfl
                      refine pure_ (i := 19) (N := some 75) (v := ?_) (a' := ?_) #[true, true, true, true, true, true, true, true, true, true, true, true, true, true, true, true, true, true, true, true, false, false, false, false, false, false, false, false, false, false, false, false, false, false, false, false, false, false, false, false, false, false, false, false, false, false, false] rfl rfl (any_of HT_.out (by kernel_rfl)) (fun _ _ _ h => h) (Or.inl ⟨by rfl, ?_⟩) ?_ ?_
                      rotate_left
                      · intro w'
                        go_simp
                        with_reducible rfl
                      rotate_left
                      · simp only [Act.put, List.setIfInBounds_toArray, List.set_cons_zero, List.set_cons_succ, i64_w, i32_w]
                        rfl
                      refine pure_ (i := 20) (N := some 76) (v := ?_) (a' := ?_) #[true, true, true, true, true, true, true, true, true, true, true, true, true, true, true, true, true, true, true, true, true, false, false, false, false, false, false, false, false, false, false, false, false, false, false, false, false, false, false, false, false, false, false, false, false, false, false] rfl rfl (any_of HT_.out (by kernel_rfl)) (fun _ _ _ h => h) (Or.inl ⟨by rfl, ?_⟩) ?_ ?_
                      rotate_left
                      · intro w'
                        go_simp
                        with_reducible rfl
                      rotate_left
                      · simp only [Act.put, List.setIfInBounds_toArray, List.set_cons_zero, List.set_cons_succ, i64_w, i32_w]
                        rfl
                      refine pure_ (i := 21) (N := some 77) (v := ?_) (a' := ?_) #[true, true, true, true, true, true, true, true, true, true, true, true, true, true, true, true, true, true, true, true, true, true, false, false, false, false, false, false, false, false, false, false, false, false, false, false, false, false, false, false, false, false, false, false, false, false, false] rfl rfl (any_of HT_.out (by kernel_rfl)) (fun _ _ _ h => h) (Or.inl ⟨by rfl, ?_⟩) ?_ ?_
                      rotate_left
                      · intro w'
                        go_simp
                        with_reducible rfl
                      rotate_left
                      · simp only [Act.put, List.setIfInBounds_toArray, List.set_cons_zero, List.set_cons_succ, i64_w, i32_w]
                        rfl
                      refine pure_ (i := 22) (N := some 78) (v := ?_) (a' := ?_) #[true, true, true, true, true, true, true, true, true, true, true, true, true, true, true, true, true, true, true, true, true, true, true, false, false, false, false, false, false, false, false, false, false, false, false, false, false, false, false, false, false, false, false, false, false, false, false] rfl rfl (any_of HT_.out (by kernel_rfl)) (fun _ _ _ h => h) (Or.inl ⟨by rfl, ?_⟩) ?_ ?_
                      rotate_left
                      · intro w'
                        go_simp
                        with_reducible rfl
                      rotate_left
                      · simp only [Act.put, List.setIfInBounds_toArray, List.set_cons_zero, List.set_cons_succ, i64_w, i32_w]
                        rfl
                      refine pure_ (i := 23) (N := some 79) (v := ?_) (a' := ?_) #[true, true, true, true, true, true, true, true, true, true, true, true, true, true, true, true, true, true, true, true, true, true, true, true, false, false, false, false, false, false, false, false, false, false, false, false, false, false, false, false, false, false, false, false, false, false, false] rfl rfl (any_of HT_.out (by kernel_rfl)) (fun _ _ _ h => h) (Or.inl ⟨by rfl, ?_⟩) ?_ ?_
                      rotate_left
                      · intro w'
                        go_simp
                        with_reducible rfl
                      rotate_left
                      · simp only [Act.put, List.setIfInBounds_toArray, List.set_cons_zero, List.set_cons_succ, i64_w, i32_w]
                        rfl
                      refine pure_ (i := 24) (N := some 80) (v := ?_) (a' := ?_) #[true, true, true, true, true, true, true, true, true, true, true, true, true, true, true, true, true, true, true, true, true, true, true, true, true, false, false, false, false, false, false, false, false, false, false, false, false, false, false, false, false, false, false, false, false, false, false] rfl rfl (any_of HT_.out (by kernel_rfl)) (fun _ _ _ h => h) (Or.inl ⟨by rfl, ?_⟩) ?_ ?_
                      rotate_left
                      · intro w'
                        go_simp
                        with_reducible rfl
                      rotate_left
                      · simp only [Act.put, List.setIfInBounds_toArray, List.set_cons_zero, List.set_cons_succ, i64_w, i32_w]
                        rfl
                      refine pure_ (i := 25) (N := some 81) (v := ?_) (a' := ?_) #[true, true, true, true, true, true, true, true, true, true, true, true, true, true, true, true, true, true, true, true, true, true, true, true, true, true, false, false, false, false, false, false, false, false, false, false, false, false, false, false, false, false, false, false, false, false, false] rfl rfl (any_of HT_.out (by kernel_rfl)) (fun _ _ _ h => h) (Or.inl ⟨by rfl, ?_⟩) ?_ ?_
                      rotate_left
                      · intro w'
                        go_simp
                        with_reducible rfl
                      rotate_left
                      · simp only [Act.put, List.setIfInBounds_toArray, List.set_cons_zero, List.set_cons_succ, i64_w, i32_w]
                        rfl
                      refine pure_ (i := 26) (N := some 82) (v := ?_) (a' := ?_) #[true, true, true, true, true, true, true, true, true, true, true, true, true, true, true, true, true, true, true, true, true, true, true, true, true, true, true, false, false, false, false, false, false, false, false, false, false, false, false, false, false, false, false, false, false, false, false] rfl rfl (any_of HT_.out (by kernel_rfl)) (fun _ _ _ h => h) (Or.inl ⟨by rfl, ?_⟩) ?_ ?_
                      rotate_left
                      · intro w'
                        go_simp
                        with_reducible rfl
                      rotate_left
                      · simp only [Act.put, List.setIfInBounds_toArray, List.set_cons_zero, List.set_cons_succ, i64_w, i32_w]
                        rfl
                      refine pure_ (i := 27) (N := some 83) (v := ?_) (a' := ?_) #[true, true, true, true, true, true, true, true, true, true, true, true, true, true, true, true, true, true, true, true, true, true, true, true, true, true, true, true, false, false, false, false, false, false, false, false, false, false, false, false, false, false, false, false, false, false, false] rfl rfl (any_of HT_.out (by kernel_rfl)) (fun _ _ _ h => h) (Or.inl ⟨by rfl, ?_⟩) ?_ ?_
                      rotate_left
                      · intro w'
                        go_simp
                        with_reducible rfl
                      rotate_left
                      · simp only [Act.put, List.setIfInBounds_toArray, List.set_cons_zero, List.set_cons_succ, i64_w, i32_w]
                        rfl
                      refine pure_ (i := 28) (N := some 84) (v := ?_) (a' := ?_) #[true, true, true, true, true, true, true, true, true, true, true, true, true, true, true, true, true, true, true, true, true, true, true, true, true, true, true, true, true, false, false, false, false, false, false, false, false, false, false, false, false, false, false, false, false, false, false] rfl rfl (any_of HT_.out (by kernel_rfl)) (fun _ _ _ h => h) (Or.inl ⟨by rfl, ?_⟩) ?_ ?_
                      rotate_left
                      · intro w'
                        go_simp
                        with_reducible rfl
                      rotate_left
                      · simp only [Act.put, List.setIfInBounds_toArray, List.set_cons_zero, List.set_cons_succ, i64_w, i32_w]
                        rfl
                      refine pure_ (i := 29) (N := some 85) (v := ?_) (a' := ?_) #[true, true, true, true, true, true, true, true, true, true, true, true, true, true, true, true, true, true, true, true, true, true, true, true, true, true, true, true, true, true, false, false, false, false, false, false, false, false, false, false, false, false, false, false, false, false, false] rfl rfl (any_of HT_.out (by kernel_rfl)) (fun _ _ _ h => h) (Or.inl ⟨by rfl, ?_⟩) ?_ ?_
                      rotate_left
                      · intro w'
                        go_simp
                        with_reducible rfl
                      rotate_left
                      · simp only [Act.put, List.setIfInBounds_toArray, List.set_cons_zero, List.set_cons_succ, i64_w, i32_w]
                        rfl
                      refine pure_ (i := 30) (N := some 86) (v := ?_) (a' := ?_) #[true, true, true, true, true, true, true, true, true, true, true, true, true, true, true, true, true, true, true, true, true, true, true, true, true, true, true, true, true, true, true, false, false, false, false, false, false, false, false, false, false, false, false, false, false, false, false] rfl rfl (any_of HT_.out (by kernel_rfl)) (fun _ _ _ h => h) (Or.inl ⟨by rfl, ?_⟩) ?_ ?_
                      rotate_left
                      · intro w'
                        go_simp
                        with_reducible rfl
                      rotate_left
                      · simp only [Act.put, List.setIfInBounds_toArray, List.set_cons_zero, List.set_cons_succ, i64_w, i32_w]
                        rfl
                      refine pure_ (i := 31) (N := some 87) (v := ?_) (a' := ?_) #[true, true, true, true, true, true, true, true, true, true, true, true, true, true, true, true, true, true, true, true, true, true, true, true, true, true, true, true, true, true, true, true, false, false, false, false, false, false, false, false, false, false, false, false, false, false, false] rfl rfl (any_of HT_.out (by kernel_rfl)) (fun _ _ _ h => h) (Or.inl ⟨by rfl, ?_⟩) ?_ ?_
                      rotate_left
                      · intro w'
                        go_simp
                        with_reducible rfl
                      rotate_left
                      · simp only [Act.put, List.setIfInBounds_toArray, List.set_cons_zero, List.set_cons_succ, i64_w, i32_w]
                        rfl
                      refine pure_ (i := 32) (N := some 88) (v := ?_) (a' := ?_) #[true, true, true, true, true, true, true, true, true, true, true, true, true, true, true, true, true, true, true, true, true, true, true, true, true, true, true, true, true, true, true, true, true, false, false, false, false, false, false, false, false, false, false, false, false, false, false] rfl rfl (any_of HT_.out (by kernel_rfl)) (fun _ _ _ h => h) (Or.inl ⟨by rfl, ?_⟩) ?_ ?_
                      rotate_left
                      · intro w'
                        go_simp
                        with_reducible rfl
                      rotate_left
                      · simp only [Act.put, List.setIfInBounds_toArray, List.set_cons_zero, List.set_cons_succ, i64_w, i32_w]
                        rfl
                      refine pure_ (i := 33) (N := some 89) (v := ?_) (a' := ?_) #[true, true, true, true, true, true, true, true, true, true, true, true, true, true, true, true, true, true, true, true, true, true, true, true, true, true, true, true, true, true, true, true, true, true, false, false, false, false, false, false, false, false, false, false, false, false, false] rfl rfl (any_of HT_.out (by kernel_rfl)) (fun _ _ _ h => h) (Or.inl ⟨by rfl, ?_⟩) ?_ ?_
                      rotate_left
                      · intro w'
                        go_simp
                        with_reducible rfl
                      rotate_left
                      · simp only [Act.put, List.setIfInBounds_toArray, List.set_cons_zero, List.set_cons_succ, i64_w, i32_w]
                        rfl
                      refine pure_ (i := 35) (N := some 91) (v := ?_) (a' := ?_) #[true, true, true, true, true, true, true, true, true, true, true, true, true, true, true, true, true, true, true, true, true, true, true, true, true, true, true, true, true, true, true, true, true, true, false, true, false, false, false, false, false, false, false, false, false, false, false] rfl rfl (any_of HT_.out (by kernel_rfl)) (fun _ _ _ h => h) (Or.inl ⟨by rfl, ?_⟩) ?_ ?_
                      rotate_left
                      · intro w'
                        go_simp
                        with_reducible rfl
                      rotate_left
                      · simp only [Act.put, List.setIfInBounds_toArray, List.set_cons_zero, List.set_cons_succ, i64_w, i32_w]
                        rfl
                      refine take_ (i := 34) (N := some 90) (v := ?_) (a' := ?_) #[true, true, true, true, true, true, true, true, true, true, true, true, true, true, true, true, true, true, true, true, true, true, true, true, true, true, true, true, true, true, true, true, true, true, true, true, false, false, false, false, false, false, false, false, false, false, false] rfl rfl (take_ofW HT_.out HW_.out (by kernel_rfl)) (fun _ _ _ h => h) (Or.inl ⟨by rfl, ?_⟩) hHeld ?_ ?_
                      rotate_left
                      · rintro w' ⟨s0, s1, s2, s3, s4, s5, s6, s7, s8, s9, s10, s11⟩
                        go_simp
                        with_reducible rfl
                      rotate_left
                      · simp only [Act.put, List.setIfInBounds_toArray, List.set_cons_zero, List.set_cons_succ, i64_w, i32_w]
                        rfl
                      refine pure_ (i := 36) (N := some 92) (v := ?_) (a' := ?_) #[true, true, true, true, true, true, true, true, true, true, true, true, true, true, true, true, true, true, true, true, true, true, true, true, true, true, true, true, true, true, true, true, true, true, true, true, true, false, false, false, false, false, false, false, false, false, false] rfl rfl (any_of HT_.out (by kernel_rfl)) (fun _ _ _ h => h) (Or.inl ⟨by rfl, ?_⟩) ?_ ?_
                      rotate_left
                      · intro w'
                        go_simp
                        with_reducible rfl
                      rotate_left
                      · simp only [Act.put, List.setIfInBounds_toArray, List.set_cons_zero, List.set_cons_succ, i64_w, i32_w]
                        rfl
                      refine pure_ (i := 37) (N := some 93) (v := ?_) (a' := ?_) #[true, true, true, true, true, true, true, true, true, true, true, true, true, true, true, true, true, true, true, true, true, true, true, true, true, true, true, true, true, true, true, true, true, true, true, true, true, true, false, false, false, false, false, false, false, false, false] rfl rfl (any_of HT_.out (by kernel_rfl)) (fun _ _ _ h => h) (Or.inl ⟨by rfl, ?_⟩) ?_ ?_
                      rotate_left
                      · intro w'
                        go_simp
                        with_reducible rfl
                      rotate_left
                      · simp only [Act.put, List.setIfInBounds_toArray, List.set_cons_zero, List.set_cons_succ, i64_w, i32_w]
                        rfl
                      refine pure_ (i := 38) (N := some 94) (v := ?_) (a' := ?_) #[true, true, true, true, true, true, true, true, true, true, true, true, true, true, true, true, true, true, true, true, true, true, true, true, true, true, true, true, true, true, true, true, true, true, true, true, true, true, true, false, false, false, false, false, false, false, false] rfl rfl (any_of HT_.out (by kernel_rfl)) (fun _ _ _ h => h) (Or.inl ⟨by rfl, ?_⟩) ?_ ?_
                      rotate_left
                      · intro w'
                        go_simp
                        with_reducible rfl
                      rotate_left
                      · simp only [Act.put, List.setIfInBounds_toArray, List.set_cons_zero, List.set_cons_succ, i64_w, i32_w]
                        rfl
                      refine pure_ (i := 39) (N := some 95) (v := ?_) (a' := ?_) #[true, true, true, true, true, true, true, true, true, true, true, true, true, true, true, true, true, true, true, true, true, true, true, true, true, true, true, true, true, true, true, true, true, true, true, true, true, true, true, true, false, false, false, false, false, false, false] rfl rfl (any_of HT_.out (by kernel_rfl)) (fun _ _ _ h => h) (Or.inl ⟨by rfl, ?_⟩) ?_ ?_
                      rotate_left
                      · intro w'
                        go_simp
                        with_reducible rfl
                      rotate_left
                      · simp only [Act.put, List.setIfInBounds_toArray, List.set_cons_zero, List.set_cons_succ, i64_w, i32_w]
                        rfl
                      refine pure_ (i := 40) (N := some 96) (v := ?_) (a' := ?_) #[true, true, true, true, true, true, true, true, true, true, true, true, true, true, true, true, true, true, true, true, true, true, true, true, true, true, true, true, true, true, true, true, true, true, true, true, true, true, true, true, true, false, false, false, false, false, false] rfl rfl (any_of HT_.out (by kernel_rfl)) (fun _ _ _ h => h) (Or.inl ⟨by rfl, ?_⟩) ?_ ?_
                      rotate_left
                      · intro w'
                        go_simp
                        with_reducible rfl
                      rotate_left
                      · simp only [Act.put, List.setIfInBounds_toArray, List.set_cons_zero, List.set_cons_succ, i64_w, i32_w]
                        rfl
                      refine pure_ (i := 41) (N := some 97) (v := ?_) (a' := ?_) #[true, true, true, true, true, true, true, true, true, true, true, true, true, true, true, true, true, true, true, true, true, true, true, true, true, true, true, true, true, true, true, true, true, true, true, true, true, true, true, true, true, true, false, false, false, false, false] rfl rfl (any_of HT_.out (by kernel_rfl)) (fun _ _ _ h => h) (Or.inl ⟨by rfl, ?_⟩) ?_ ?_
                      rotate_left
                      · intro w'
                        go_simp
                        with_reducible rfl
                      rotate_left
                      · simp only [Act.put, List.setIfInBounds_toArray, List.set_cons_zero, List.set_cons_succ, i64_w, i32_w]
                        rfl
                      refine pure_ (i := 42) (N := some 98) (v := ?_) (a' := ?_) #[true, true, true, true, true, true, true, true, true, true, true, true, true, true, true, true, true, true, true, true, true, true, true, true, true, true, true, true, true, true, true, true, true, true, true, true, true, true, true, true, true, true, true, false, false, false, false] rfl rfl (any_of HT_.out (by kernel_rfl)) (fun _ _ _ h => h) (Or.inl ⟨by rfl, ?_⟩) ?_ ?_
                      rotate_left
                      · intro w'
                        go_simp
                        with_reducible rfl
                      rotate_left
                      · simp only [Act.put, List.setIfInBounds_toArray, List.set_cons_zero, List.set_cons_succ, i64_w, i32_w]
                        rfl
                      refine pure_ (i := 43) (N := some 99) (v := ?_) (a' := ?_) #[true, true, true, true, true, true, true, true, true, true, true, true, true, true, true, true, true, true, true, true, true, true, true, true, true, true, true, true, true, true, true, true, true, true, true, true, true, true, true, true, true, true, true, true, false, false, false] rfl rfl (any_of HT_.out (by kernel_rfl)) (fun _ _ _ h => h) (Or.inl ⟨by rfl, ?_⟩) ?_ ?_
                      rotate_left
                      · intro w'
                        go_simp
                        with_reducible rfl
                      rotate_left
                      · simp only [Act.put, List.setIfInBounds_toArray, List.set_cons_zero, List.set_cons_succ, i64_w, i32_w]
                        rfl
                      refine pure_ (i := 44) (N := some 100) (v := ?_) (a' := ?_) #[true, true, true, true, true, true, true, true, true, true, true, true, true, true, true, true, true, true, true, true, true, true, true, true, true, true, true, true, true, true, true, true, true, true, true, true, true, true, true, true, true, true, true, true, true, false, false] rfl rfl (any_of HT_.out (by kernel_rfl)) (fun _ _ _ h => h) (Or.inl ⟨by rfl, ?_⟩) ?_ ?_
                      rotate_left
                      · intro w'
                        go_simp
                        with_reducible rfl
                      rotate_left
                      · simp only [Act.put, List.setIfInBounds_toArray, List.set_cons_zero, List.set_cons_succ, i64_w, i32_w]
                        rfl
                      refine pure_ (i := 45) (N := some 101) (v := ?_) (a' := ?_) #[true, true, true, true, true, true, true, true, true, true, true, true, true, true, true, true, true, true, true, true, true, true, true, true, true, true, true, true, true, true, true, true, true, true, true, true, true, true, true, true, true, true, true, true, true, true, false] rfl rfl (any_of HT_.out (by kernel_rfl)) (fun _ _ _ h => h) (Or.inl ⟨by rfl, ?_⟩) ?_ ?_
                      rotate_left
                      · intro w'
                        go_simp
                        with_reducible rfl
                      rotate_left
                      · simp only [Act.put, List.setIfInBounds_toArray, List.set_cons_zero, List.set_cons_succ, i64_w, i32_w]
                        rfl
                      refine pure_ (i := 46) (N := some 0) (v := ?_) (a' := ?_) #[true, true, true, true, true, true, true, true, true, true, true, true, true, true, true, true, true, true, true, true, true, true, true, true, true, true, true, true, true, true, true, true, true, true, true, true, true, true, true, true, true, true, true, true, true, true, true] rfl rfl (any_of HT_.out (by kernel_rfl)) (fun _ _ _ h => h) (Or.inl ⟨by rfl, ?_⟩) ?_ ?_
                      rotate_left
                      · intro w'
                        go_simp
                        with_reducible rfl
                      rotate_left
                      · simp only [Act.put, List.setIfInBounds_toArray, List.set_cons_zero, List.set_cons_succ, i64_w, i32_w]
                        rfl
                      refine done_ (done_of HT_.out (by kernel_rfl)) ?_
                      try go_wp2
                      go_ret
                      exact ⟨by first | rfl | (simp [errW_none, errW_some] <;> rfl) | (simp [*, errW_none, errW_some] <;> rfl), by repeat (first | (with_reducible first | exact HB.out | apply below_alloc | apply pw_below_drewN | apply below_drew1 | refine below_set ?_ GE261.out | refine below_set ?_ GE272.out | refine below_set ?_ GE283.out | refine below_set ?_ GE291.out | refine below_set ?_ GE302.out | refine below_set ?_ GE310.out | refine below_set ?_ GE315.out) | exact HB.out)⟩
                    · rw [if_neg c30] at H
                      exact absurd H (by simp)
                  · rw [if_neg c29] at H
                    exact absurd H (by simp)
                · rw [if_neg c28] at H
                  exact absurd H (by simp)
              · rw [if_neg c27] at H
                exact absurd H (by simp)
            · rw [if_neg c26] at H
              exact absurd H (by simp)
          · rw [if_neg c25] at H
            exact absurd H (by simp)
        · rw [if_neg c23] at H
          exact absurd H (by simp)
      · rw [if_neg c22] at H
        exact absurd H (by simp)
    · rw [if_neg c20] at H
      exact absurd H (by simp)
  · rw [if_neg c19] at H
    exact absurd H (by simp)

end Go.Proofs.Ytnfolhfnkbidgaa.Print
