import Derived.Test.YtnfolhfnkbidgaaPx0
import Derived.Test.YtnfolhfnkbidgaaPx1
import Derived.Test.YtnfolhfnkbidgaaPx3
import Derived.Test.YtnfolhfnkbidgaaPx4
import Derived.Test.YtnfolhfnkbidgaaPx5
import Derived.Test.YtnfolhfnkbidgaaPx6
import Derived.Test.YtnfolhfnkbidgaaPx8
namespace Go.Proofs.Ytnfolhfnkbidgaa.Print
open Go.RowKit Go.Proofs.YtnfolhfnkbidgaaW.PrintWords Go.Proofs.YtnfolhfnkbidgaaW.PrintLast Go.Proofs.YtnfolhfnkbidgaaW.PrintMore
attribute [local go_sem] max2_int min2_int max_two min_two max_three min_three max_four min_four
set_option linter.unusedVariables false
set_option linter.unusedSimpArgs false
attribute [local go_sem high] eqA23
def Rules_T1 : Bool × List (List Nat × List Nat) := (true, [([], []), ([], []), ([1], [1]), ([0, 2], [0, 2]), ([], []), ([], []), ([5], [5]), ([4, 6, 3], [4, 6]), ([], []), ([], []), ([8, 3, 7, 0, 1, 2, 3, 8, 9], [3, 8]), ([9, 7, 10, 0, 1, 2, 3, 4, 5, 6, 7, 8, 9, 10], [7, 9])])
def Rules_B1 : List Nat := [0, 0, 2, 7, 0, 0, 32, 127, 0, 0, 1023, 2047]
theorem Rules_tab1 : rtab .any (opsOf Try.f4 1) = Rules_T1 := by kernel_rfl
theorem Rules_bits1 : waitsOk Rules_T1.2 Rules_B1 = true := by kernel_rfl
set_option maxHeartbeats 8000000 in
set_option maxRecDepth 100000 in
theorem rules_walk (k : Nat) (a0 : Int) (a1 : Int) (a2_0 : Bool) (a2_1 : Bool) (t404 t405 : Int) (t406 : ByteArray) (t407 t408 : Int) (t409 : ByteArray) (t412 t413 : Int) (t414 : ByteArray) (t415 : Int) (t422 t423 : Int) (t424 : ByteArray) (t425 : Int) (w : World)
    (A4 : Aside0 (marqueelaw02_value.f a0 a2_0 = some (t404, t405, t406))) (A5 : Aside0 (marqueelaw02_value.f a1 a2_1 = some (t407, t408, t409)))
    (A6 : Aside0 (arith_Add.f k t404 t405 t406 t407 t408 t409 = some (t412, t413, t414, t415))) (A7 : Aside0 (arith_Add.f k t407 t408 t409 t404 t405 t406 = some (t412, t413, t414, t415)))
    (A8 : Aside0 (arith_Mul.f k t404 t405 t406 t407 t408 t409 = some (t422, t423, t424, t425))) (A9 : Aside0 (arith_Mul.f k t407 t408 t409 t404 t405 t406 = some (t422, t423, t424, t425)))
    (HSU : Aside0 (marqueelaw02_sure.f k = some true)) (b0 b1 : Int) (b2 : ByteArray) (c0 : Int) (c2 : ByteArray) (HU : Aside0 (t415 = 0 → arith_Sub.f k t412 t413 t414 t407 t408 t409 = some (b0, b1, b2, 0) ∧ arith_Sub.f k b0 b1 b2 t404 t405 t406 = some (c0, 0, c2, 0)))
    (d0 d1 : Int) (d2 : ByteArray) (r0 r1 : Int) (r2 : ByteArray) (m0 m1 : Int) (m2 : ByteArray)
    (HD : Aside0 (¬ (a1 = 0 ∨ a2_0 = true ∨ a2_1 = true ∨ (a0 = -9223372036854775808 ∧ a1 = -1)) → arith_Div.f k t404 t405 t406 t407 t408 t409 = some (d0, d1, d2, 0) ∧ arith_Mod.f k t404 t405 t406 t407 t408 t409 = some (r0, r1, r2, 0) ∧ arith_Mul.f k d0 d1 d2 t407 t408 t409 = some (m0, m1, m2, 0) ∧ arith_Add.f k m0 m1 m2 r0 r1 r2 = some (t404, t405, t406, 0) ∧ (r1 = 0 ∨ (decide (r1 < 0) == decide (a0 < 0)) = true))) :
    Calls Try.prog 4 #[.int .i64 a0, .int .i64 a1, .agg #[.bool a2_0, .bool a2_1]] w fun e w' => e = .returned (.bool true) ∧ Below w.heap.size w w' := by
  have hu30 := Try.underlying30
  have hu23 := Try.underlying23
  have HB := Aside0.mk (Below.refl w.heap.size w)
  go_enter Try.func4, Try.ntmps4
  try go_wp2_with (first | ((with_reducible refine gate_dst (N := 5) rfl ?_); refine box_event ?hg (N := 5) ?hd (cs := #[.bool a2_0, .bool a2_1]) (t := 30) ?hr ?_; (case hd => rfl); (case hg => rfl); (case hr => first | (go_simp; done) | (go_simp; rfl)); intro gb403 hg w11 hbox hb; have n0_ := Aside0.mk (below_step (by repeat (first | (with_reducible first | exact HB.out | apply below_alloc | apply pw_below_drewN | apply below_drew1) | exact HB.out)) hb); have n1_ := Aside0.mk (hbox); have n2_ := Aside0.mk ((by rw [hg]; exact (below_size (by repeat (first | (with_reducible first | exact HB.out | apply below_alloc | apply pw_below_drewN | apply below_drew1) | exact HB.out))) : w.heap.size ≤ gb403)); have n3_ := Aside0.mk ((by rw [hg]; exact (below_size (by repeat (first | (with_reducible first | exact HB.out | apply below_alloc | apply pw_below_drewN | apply below_drew1) | exact HB.out))) : w.heap.size ≤ gb403)); clear HB; have HB := n0_; have BK403 := n1_; have GW403 := n2_; have GE403 := n3_; clear n0_ n1_ n2_ n3_; clear hb hbox hg))
  have n0_ := Aside0.mk (blk_drew BK403.out)
  have n1_ := Aside0.mk (below_drew1 HB.out)
  clear BK403
  clear HB
  have BK403 := n0_
  have HB := n1_
  clear n0_ n1_
  refine start_ (n := 12) (S := fun w' => w'.cell? ⟨gb403, 0, none⟩ = some (.bool a2_0) ∧ w'.cell? ⟨gb403, 1, none⟩ = some (.bool a2_1)) (ds := []) #[false, false, false, false, false, false, false, false, false, false, false, false] (by kernel_rfl) rfl rfl ⟨(blk_cell BK403.out 0).trans rfl, (blk_cell BK403.out 1).trans rfl⟩ (fun hHeld => ?_); refine with_tabW Rules_tab1 Rules_bits1 (fun HT_ HW_ => ?_)
  generalize w11.drew = w12 at BK403 HB hHeld ⊢
  refine pure_ (i := 0) (N := some 29) (v := ?_) (a' := ?_) #[true, false, false, false, false, false, false, false, false, false, false, false] rfl rfl (any_of HT_.out (by kernel_rfl)) (fun _ _ _ h => h) (Or.inl ⟨by rfl, ?_⟩) ?_ ?_
  rotate_left
  · intro w'
    go_simp
    with_reducible rfl
  rotate_left
  · simp only [Act.put, List.setIfInBounds_toArray, List.set_cons_zero, List.set_cons_succ, i64_w, i32_w]
    rfl
  refine pure_ (i := 1) (N := some 30) (v := ?_) (a' := ?_) #[true, true, false, false, false, false, false, false, false, false, false, false] rfl rfl (any_of HT_.out (by kernel_rfl)) (fun _ _ _ h => h) (Or.inl ⟨by rfl, ?_⟩) ?_ ?_
  rotate_left
  · intro w'
    go_simp
    with_reducible rfl
  rotate_left
  · simp only [Act.put, List.setIfInBounds_toArray, List.set_cons_zero, List.set_cons_succ, i64_w, i32_w]
    rfl
  refine pure_ (i := 4) (N := some 33) (v := ?_) (a' := ?_) #[true, true, false, false, true, false, false, false, false, false, false, false] rfl rfl (any_of HT_.out (by kernel_rfl)) (fun _ _ _ h => h) (Or.inl ⟨by rfl, ?_⟩) ?_ ?_
  rotate_left
  · intro w'
    go_simp
    with_reducible rfl
  rotate_left
  · simp only [Act.put, List.setIfInBounds_toArray, List.set_cons_zero, List.set_cons_succ, i64_w, i32_w]
    rfl
  refine pure_ (i := 5) (N := some 34) (v := ?_) (a' := ?_) #[true, true, false, false, true, true, false, false, false, false, false, false] rfl rfl (any_of HT_.out (by kernel_rfl)) (fun _ _ _ h => h) (Or.inl ⟨by rfl, ?_⟩) ?_ ?_
  rotate_left
  · intro w'
    go_simp
    with_reducible rfl
  rotate_left
  · simp only [Act.put, List.setIfInBounds_toArray, List.set_cons_zero, List.set_cons_succ, i64_w, i32_w]
    rfl
  refine take_ (i := 2) (N := some 31) (v := ?_) (a' := ?_) #[true, true, true, false, true, true, false, false, false, false, false, false] rfl rfl (take_ofW HT_.out HW_.out (by kernel_rfl)) (fun _ _ _ h => h) (Or.inl ⟨by rfl, ?_⟩) hHeld ?_ ?_
  rotate_left
  · rintro w' ⟨s0, s1⟩
    go_simp
    with_reducible rfl
  rotate_left
  · simp only [Act.put, List.setIfInBounds_toArray, List.set_cons_zero, List.set_cons_succ, i64_w, i32_w]
    rfl
  refine take_ (i := 6) (N := some 35) (v := ?_) (a' := ?_) #[true, true, true, false, true, true, true, false, false, false, false, false] rfl rfl (take_ofW HT_.out HW_.out (by kernel_rfl)) (fun _ _ _ h => h) (Or.inl ⟨by rfl, ?_⟩) hHeld ?_ ?_
  rotate_left
  · rintro w' ⟨s0, s1⟩
    go_simp
    with_reducible rfl
  rotate_left
  · simp only [Act.put, List.setIfInBounds_toArray, List.set_cons_zero, List.set_cons_succ, i64_w, i32_w]
    rfl
  refine join_ (σ := Nat × Nat) 2 #[true, true, true, true, true, true, true, true, true, true, false, false] (fun s_ => [(32, .agg #[.int .i64 t404, .int .i64 t405, .string t406]), (36, .agg #[.int .i64 t407, .int .i64 t408, .string t409]), (7, .pointer (some ⟨s_.1, 0, none⟩)), (8, .pointer (some ⟨s_.2, 0, none⟩))]) (fun s_ w' => (w'.cell? ⟨gb403, 0, none⟩ = some (.bool a2_0) ∧ w'.cell? ⟨gb403, 1, none⟩ = some (.bool a2_1)) ∧ (w'.heap[gb403]? = some (.cells #[.bool a2_0, .bool a2_1] 30 (0, 0))) ∧ (w'.heap[s_.1]? = some (.cells #[.int .i64 0, .int .i64 0, .string (⟨#[]⟩ : ByteArray)] 23 (0, 0))) ∧ (w'.heap[s_.2]? = some (.cells #[.int .i64 0, .int .i64 0, .string (⟨#[]⟩ : ByteArray)] 23 (0, 0))) ∧ (w.heap.size ≤ s_.1) ∧ (w.heap.size ≤ s_.1) ∧ (gb403 ≠ s_.1) ∧ (s_.1 ≠ gb403) ∧ (s_.2 ≠ s_.1) ∧ (s_.1 ≠ s_.2) ∧ (w.heap.size ≤ s_.2) ∧ (w.heap.size ≤ s_.2) ∧ (gb403 ≠ s_.2) ∧ (s_.2 ≠ gb403) ∧ (Below w.heap.size w w')) ?_ ?_
  rotate_left
  · intro hJ3_7_8_9
    refine join_ (σ := Nat) 3 #[true, true, true, true, true, true, true, true, true, false, false, false] (fun s_ => [(32, .agg #[.int .i64 t404, .int .i64 t405, .string t406]), (36, .agg #[.int .i64 t407, .int .i64 t408, .string t409]), (7, .pointer (some ⟨s_, 0, none⟩))]) (fun s_ w' => (w'.cell? ⟨gb403, 0, none⟩ = some (.bool a2_0) ∧ w'.cell? ⟨gb403, 1, none⟩ = some (.bool a2_1)) ∧ (w'.heap[gb403]? = some (.cells #[.bool a2_0, .bool a2_1] 30 (0, 0))) ∧ (w'.heap[s_]? = some (.cells #[.int .i64 0, .int .i64 0, .string (⟨#[]⟩ : ByteArray)] 23 (0, 0))) ∧ (w.heap.size ≤ s_) ∧ (w.heap.size ≤ s_) ∧ (gb403 ≠ s_) ∧ (s_ ≠ gb403) ∧ (Below w.heap.size w w')) ?_ ?_
    rotate_left
    · intro hJ3_7_8
      refine join_ (σ := Nat) 3 #[true, true, true, true, true, true, true, true, false, true, false, false] (fun s_ => [(32, .agg #[.int .i64 t404, .int .i64 t405, .string t406]), (36, .agg #[.int .i64 t407, .int .i64 t408, .string t409]), (8, .pointer (some ⟨s_, 0, none⟩))]) (fun s_ w' => (w'.cell? ⟨gb403, 0, none⟩ = some (.bool a2_0) ∧ w'.cell? ⟨gb403, 1, none⟩ = some (.bool a2_1)) ∧ (w'.heap[gb403]? = some (.cells #[.bool a2_0, .bool a2_1] 30 (0, 0))) ∧ (w'.heap[s_]? = some (.cells #[.int .i64 0, .int .i64 0, .string (⟨#[]⟩ : ByteArray)] 23 (0, 0))) ∧ (w.heap.size ≤ s_) ∧ (w.heap.size ≤ s_) ∧ (gb403 ≠ s_) ∧ (s_ ≠ gb403) ∧ (Below w.heap.size w w')) ?_ ?_
      rotate_left
      · intro hJ3_7_9
        refine join_ (σ := Nat × Nat) 3 #[true, true, true, true, true, true, true, false, true, true, false, false] (fun s_ => [(32, .agg #[.int .i64 t404, .int .i64 t405, .string t406]), (7, .pointer (some ⟨s_.1, 0, none⟩)), (8, .pointer (some ⟨s_.2, 0, none⟩))]) (fun s_ w' => (w'.cell? ⟨gb403, 0, none⟩ = some (.bool a2_0) ∧ w'.cell? ⟨gb403, 1, none⟩ = some (.bool a2_1)) ∧ (w'.heap[gb403]? = some (.cells #[.bool a2_0, .bool a2_1] 30 (0, 0))) ∧ (w'.heap[s_.1]? = some (.cells #[.int .i64 0, .int .i64 0, .string (⟨#[]⟩ : ByteArray)] 23 (0, 0))) ∧ (w'.heap[s_.2]? = some (.cells #[.int .i64 0, .int .i64 0, .string (⟨#[]⟩ : ByteArray)] 23 (0, 0))) ∧ (w.heap.size ≤ s_.1) ∧ (w.heap.size ≤ s_.1) ∧ (gb403 ≠ s_.1) ∧ (s_.1 ≠ gb403) ∧ (s_.2 ≠ s_.1) ∧ (s_.1 ≠ s_.2) ∧ (w.heap.size ≤ s_.2) ∧ (w.heap.size ≤ s_.2) ∧ (gb403 ≠ s_.2) ∧ (s_.2 ≠ gb403) ∧ (Below w.heap.size w w')) ?_ ?_
        rotate_left
        · intro hJ3_8_9
          refine join_ (σ := Unit) 4 #[true, true, true, true, true, true, true, true, false, false, false, false] (fun s_ => [(32, .agg #[.int .i64 t404, .int .i64 t405, .string t406]), (36, .agg #[.int .i64 t407, .int .i64 t408, .string t409])]) (fun s_ w' => (w'.cell? ⟨gb403, 0, none⟩ = some (.bool a2_0) ∧ w'.cell? ⟨gb403, 1, none⟩ = some (.bool a2_1)) ∧ (w'.heap[gb403]? = some (.cells #[.bool a2_0, .bool a2_1] 30 (0, 0))) ∧ (Below w.heap.size w w')) ?_ ?_
          rotate_left
          · intro hJ3_7
            refine join_ (σ := Nat) 4 #[true, true, true, true, true, true, true, false, true, false, false, false] (fun s_ => [(32, .agg #[.int .i64 t404, .int .i64 t405, .string t406]), (7, .pointer (some ⟨s_, 0, none⟩))]) (fun s_ w' => (w'.cell? ⟨gb403, 0, none⟩ = some (.bool a2_0) ∧ w'.cell? ⟨gb403, 1, none⟩ = some (.bool a2_1)) ∧ (w'.heap[gb403]? = some (.cells #[.bool a2_0, .bool a2_1] 30 (0, 0))) ∧ (w'.heap[s_]? = some (.cells #[.int .i64 0, .int .i64 0, .string (⟨#[]⟩ : ByteArray)] 23 (0, 0))) ∧ (w.heap.size ≤ s_) ∧ (w.heap.size ≤ s_) ∧ (gb403 ≠ s_) ∧ (s_ ≠ gb403) ∧ (Below w.heap.size w w')) ?_ ?_
            rotate_left
            · intro hJ3_8
              refine join_ (σ := Nat) 4 #[true, true, true, true, true, true, true, false, false, true, false, false] (fun s_ => [(32, .agg #[.int .i64 t404, .int .i64 t405, .string t406]), (8, .pointer (some ⟨s_, 0, none⟩))]) (fun s_ w' => (w'.cell? ⟨gb403, 0, none⟩ = some (.bool a2_0) ∧ w'.cell? ⟨gb403, 1, none⟩ = some (.bool a2_1)) ∧ (w'.heap[gb403]? = some (.cells #[.bool a2_0, .bool a2_1] 30 (0, 0))) ∧ (w'.heap[s_]? = some (.cells #[.int .i64 0, .int .i64 0, .string (⟨#[]⟩ : ByteArray)] 23 (0, 0))) ∧ (w.heap.size ≤ s_) ∧ (w.heap.size ≤ s_) ∧ (gb403 ≠ s_) ∧ (s_ ≠ gb403) ∧ (Below w.heap.size w w')) ?_ ?_
              rotate_left
              · intro hJ3_9
                refine join_ (σ := Nat × Nat) 4 #[true, true, true, false, true, true, true, false, true, true, false, false] (fun s_ => [(7, .pointer (some ⟨s_.1, 0, none⟩)), (8, .pointer (some ⟨s_.2, 0, none⟩))]) (fun s_ w' => (w'.cell? ⟨gb403, 0, none⟩ = some (.bool a2_0) ∧ w'.cell? ⟨gb403, 1, none⟩ = some (.bool a2_1)) ∧ (w'.heap[gb403]? = some (.cells #[.bool a2_0, .bool a2_1] 30 (0, 0))) ∧ (w'.heap[s_.1]? = some (.cells #[.int .i64 0, .int .i64 0, .string (⟨#[]⟩ : ByteArray)] 23 (0, 0))) ∧ (w'.heap[s_.2]? = some (.cells #[.int .i64 0, .int .i64 0, .string (⟨#[]⟩ : ByteArray)] 23 (0, 0))) ∧ (w.heap.size ≤ s_.1) ∧ (w.heap.size ≤ s_.1) ∧ (gb403 ≠ s_.1) ∧ (s_.1 ≠ gb403) ∧ (s_.2 ≠ s_.1) ∧ (s_.1 ≠ s_.2) ∧ (w.heap.size ≤ s_.2) ∧ (w.heap.size ≤ s_.2) ∧ (gb403 ≠ s_.2) ∧ (s_.2 ≠ gb403) ∧ (Below w.heap.size w w')) ?_ ?_
                rotate_left
                · intro hJ8_9
                  refine join_ (σ := Unit) 5 #[true, true, true, true, true, true, true, false, false, false, false, false] (fun s_ => [(32, .agg #[.int .i64 t404, .int .i64 t405, .string t406])]) (fun s_ w' => (w'.cell? ⟨gb403, 0, none⟩ = some (.bool a2_0) ∧ w'.cell? ⟨gb403, 1, none⟩ = some (.bool a2_1)) ∧ (w'.heap[gb403]? = some (.cells #[.bool a2_0, .bool a2_1] 30 (0, 0))) ∧ (Below w.heap.size w w')) ?_ ?_
                  rotate_left
                  · intro hJ3
                    refine join_ (σ := Nat) 5 #[true, true, true, false, true, true, true, false, true, false, false, false] (fun s_ => [(7, .pointer (some ⟨s_, 0, none⟩))]) (fun s_ w' => (w'.cell? ⟨gb403, 0, none⟩ = some (.bool a2_0) ∧ w'.cell? ⟨gb403, 1, none⟩ = some (.bool a2_1)) ∧ (w'.heap[gb403]? = some (.cells #[.bool a2_0, .bool a2_1] 30 (0, 0))) ∧ (w'.heap[s_]? = some (.cells #[.int .i64 0, .int .i64 0, .string (⟨#[]⟩ : ByteArray)] 23 (0, 0))) ∧ (w.heap.size ≤ s_) ∧ (w.heap.size ≤ s_) ∧ (gb403 ≠ s_) ∧ (s_ ≠ gb403) ∧ (Below w.heap.size w w')) ?_ ?_
                    rotate_left
                    · intro hJ8
                      refine join_ (σ := Nat) 5 #[true, true, true, false, true, true, true, false, false, true, false, false] (fun s_ => [(8, .pointer (some ⟨s_, 0, none⟩))]) (fun s_ w' => (w'.cell? ⟨gb403, 0, none⟩ = some (.bool a2_0) ∧ w'.cell? ⟨gb403, 1, none⟩ = some (.bool a2_1)) ∧ (w'.heap[gb403]? = some (.cells #[.bool a2_0, .bool a2_1] 30 (0, 0))) ∧ (w'.heap[s_]? = some (.cells #[.int .i64 0, .int .i64 0, .string (⟨#[]⟩ : ByteArray)] 23 (0, 0))) ∧ (w.heap.size ≤ s_) ∧ (w.heap.size ≤ s_) ∧ (gb403 ≠ s_) ∧ (s_ ≠ gb403) ∧ (Below w.heap.size w w')) ?_ ?_
                      rotate_left
                      · intro hJ9
                        refine three_ (i := 3) (j := 8) (k := 9) (Ni := some 32) (Nj := some 7) (Nk := some 8) #[true, true, true, true, true, true, true, false, false, false, false, false] #[true, true, true, false, true, true, true, false, true, false, false, false] #[true, true, true, false, true, true, true, false, false, true, false, false] rfl rfl rfl rfl rfl rfl (three_of HT_.out (by kernel_rfl)) (by decide) (by decide) (by decide) (fun K hK => ?_) (fun K hK => ?_) (fun K hK => ?_)
                        · skip
                          refine goes_ Try.func13 (by kernel_rfl) rfl #[.int .i64 a0, .bool a2_0] (by rfl) rfl rfl (by (try simp only [List.map_toArray, List.map_cons, List.map_nil]); first | done | rfl | (simp only [List.length_drop, List.length_take]; rfl)) ?_
                          with_reducible refine (marqueelaw02_value.calls a0 a2_0 t404 t405 t406 _ A4.out).mono ?_
                          rintro e w13 ⟨rfl, hb⟩
                          refine ⟨_, rfl, ?_⟩
                          have n0_ := Aside0.mk (blk_below (g := gb403) (o := .cells #[.bool a2_0, .bool a2_1] 30 (0, 0)) (by (with_reducible repeat (first | refine blk_drewN ?_ _ | refine blk_drew ?_ | refine blk_alloc ?_ _)); exact BK403.out) hb)
                          have n1_ := Aside0.mk (below_step (by repeat (first | (with_reducible first | exact HB.out | apply below_alloc | apply pw_below_drewN | apply below_drew1 | refine below_set ?_ GE403.out) | exact HB.out)) hb)
                          clear BK403
                          clear HB
                          have BK403 := n0_
                          have HB := n1_
                          clear n0_ n1_
                          (try clear hb)
                          (try clear hb2)
                          (try clear hk)
                          (try clear hi)
                          refine hK.out _ _ ⟨(blk_cell BK403.out 0).trans rfl, (blk_cell BK403.out 1).trans rfl⟩ (fun hHeld => ?_)
                          clear hK K
                          refine norm_ (a' := ?_) ?_ ?_
                          rotate_left
                          · show Act.put _ (some 32) _ = _
                            simp only [Act.put, List.setIfInBounds_toArray, List.set_cons_zero, List.set_cons_succ, i64_w, i32_w]
                            rfl
                          exact norm_ (by first | (simp only [putAll, Act.put, List.setIfInBounds_toArray, List.set_cons_zero, List.set_cons_succ]; done) | (simp only [putAll, Act.put, List.setIfInBounds_toArray, List.set_cons_zero, List.set_cons_succ]; rfl)) (hJ3 () _ ⟨hHeld, (by (with_reducible repeat (first | refine blk_drewN ?_ _ | refine blk_drew ?_ | refine blk_alloc ?_ _)); exact BK403.out), (by repeat (first | (with_reducible first | exact HB.out | apply below_alloc | apply pw_below_drewN | apply below_drew1 | refine below_set ?_ GE403.out) | exact HB.out))⟩)
                        · skip
                          refine box_step ?hg (N := 7) ?hd (cs := #[.int .i64 0, .int .i64 0, .string (⟨#[]⟩ : ByteArray)]) (t := 23) ?hr ?_; (case hd => rfl); (case hg => rfl); (case hr => first | (go_simp; done) | (go_simp; rfl))
                          intro gb410 hg w13 hbox hb
                          have n0_ := Aside0.mk (blk_below (g := gb403) (o := .cells #[.bool a2_0, .bool a2_1] 30 (0, 0)) (by (with_reducible repeat (first | refine blk_drewN ?_ _ | refine blk_drew ?_ | refine blk_alloc ?_ _)); exact BK403.out) hb)
                          have n1_ := Aside0.mk (below_step (by repeat (first | (with_reducible first | exact HB.out | apply below_alloc | apply pw_below_drewN | apply below_drew1 | refine below_set ?_ GE403.out) | exact HB.out)) hb)
                          have n2_ := Aside0.mk (hbox)
                          have n3_ := Aside0.mk ((by rw [hg]; exact (below_size (by repeat (first | (with_reducible first | exact HB.out | apply below_alloc | apply pw_below_drewN | apply below_drew1 | refine below_set ?_ GE403.out) | exact HB.out))) : w.heap.size ≤ gb410))
                          have n4_ := Aside0.mk ((by rw [hg]; exact (below_size (by repeat (first | (with_reducible first | exact HB.out | apply below_alloc | apply pw_below_drewN | apply below_drew1 | refine below_set ?_ GE403.out) | exact HB.out))) : w.heap.size ≤ gb410))
                          have n5_ := Aside0.mk ((by rw [hg]; exact Nat.ne_of_lt (blk_lt (g := gb403) (o := .cells #[.bool a2_0, .bool a2_1] 30 (0, 0)) (by (with_reducible repeat (first | refine blk_drewN ?_ _ | refine blk_drew ?_ | refine blk_alloc ?_ _)); exact BK403.out)) : gb403 ≠ gb410))
                          have n6_ := Aside0.mk ((by rw [hg]; exact Nat.ne_of_gt (blk_lt (g := gb403) (o := .cells #[.bool a2_0, .bool a2_1] 30 (0, 0)) (by (with_reducible repeat (first | refine blk_drewN ?_ _ | refine blk_drew ?_ | refine blk_alloc ?_ _)); exact BK403.out)) : gb410 ≠ gb403))
                          clear BK403
                          clear HB
                          have BK403 := n0_
                          have HB := n1_
                          have BK410 := n2_
                          have GW410 := n3_
                          have GE410 := n4_
                          have NB403_410 := n5_
                          have NB410_403 := n6_
                          clear n0_ n1_ n2_ n3_ n4_ n5_ n6_
                          clear hb hbox hg
                          refine hK.out _ _ ⟨(blk_cell BK403.out 0).trans rfl, (blk_cell BK403.out 1).trans rfl⟩ (fun hHeld => ?_)
                          clear hK K
                          refine norm_ (a' := ?_) ?_ ?_
                          rotate_left
                          · show Act.put _ (some 7) _ = _
                            simp only [Act.put, List.setIfInBounds_toArray, List.set_cons_zero, List.set_cons_succ, i64_w, i32_w]
                            rfl
                          exact norm_ (by first | (simp only [putAll, Act.put, List.setIfInBounds_toArray, List.set_cons_zero, List.set_cons_succ]; done) | (simp only [putAll, Act.put, List.setIfInBounds_toArray, List.set_cons_zero, List.set_cons_succ]; rfl)) (hJ8 (gb410) _ ⟨hHeld, (by (with_reducible repeat (first | refine blk_drewN ?_ _ | refine blk_drew ?_ | refine blk_alloc ?_ _)); exact BK403.out), (by (with_reducible repeat (first | refine blk_drewN ?_ _ | refine blk_drew ?_ | refine blk_alloc ?_ _)); exact BK410.out), GW410.out, GE410.out, NB403_410.out, NB410_403.out, (by repeat (first | (with_reducible first | exact HB.out | apply below_alloc | apply pw_below_drewN | apply below_drew1 | refine below_set ?_ GE403.out | refine below_set ?_ GE410.out) | exact HB.out))⟩)
                        · skip
                          refine box_step ?hg (N := 8) ?hd (cs := #[.int .i64 0, .int .i64 0, .string (⟨#[]⟩ : ByteArray)]) (t := 23) ?hr ?_; (case hd => rfl); (case hg => rfl); (case hr => first | (go_simp; done) | (go_simp; rfl))
                          intro gb411 hg w13 hbox hb
                          have n0_ := Aside0.mk (blk_below (g := gb403) (o := .cells #[.bool a2_0, .bool a2_1] 30 (0, 0)) (by (with_reducible repeat (first | refine blk_drewN ?_ _ | refine blk_drew ?_ | refine blk_alloc ?_ _)); exact BK403.out) hb)
                          have n1_ := Aside0.mk (below_step (by repeat (first | (with_reducible first | exact HB.out | apply below_alloc | apply pw_below_drewN | apply below_drew1 | refine below_set ?_ GE403.out) | exact HB.out)) hb)
                          have n2_ := Aside0.mk (hbox)
                          have n3_ := Aside0.mk ((by rw [hg]; exact (below_size (by repeat (first | (with_reducible first | exact HB.out | apply below_alloc | apply pw_below_drewN | apply below_drew1 | refine below_set ?_ GE403.out) | exact HB.out))) : w.heap.size ≤ gb411))
                          have n4_ := Aside0.mk ((by rw [hg]; exact (below_size (by repeat (first | (with_reducible first | exact HB.out | apply below_alloc | apply pw_below_drewN | apply below_drew1 | refine below_set ?_ GE403.out) | exact HB.out))) : w.heap.size ≤ gb411))
                          have n5_ := Aside0.mk ((by rw [hg]; exact Nat.ne_of_lt (blk_lt (g := gb403) (o := .cells #[.bool a2_0, .bool a2_1] 30 (0, 0)) (by (with_reducible repeat (first | refine blk_drewN ?_ _ | refine blk_drew ?_ | refine blk_alloc ?_ _)); exact BK403.out)) : gb403 ≠ gb411))
                          have n6_ := Aside0.mk ((by rw [hg]; exact Nat.ne_of_gt (blk_lt (g := gb403) (o := .cells #[.bool a2_0, .bool a2_1] 30 (0, 0)) (by (with_reducible repeat (first | refine blk_drewN ?_ _ | refine blk_drew ?_ | refine blk_alloc ?_ _)); exact BK403.out)) : gb411 ≠ gb403))
                          clear BK403
                          clear HB
                          have BK403 := n0_
                          have HB := n1_
                          have BK411 := n2_
                          have GW411 := n3_
                          have GE411 := n4_
                          have NB403_411 := n5_
                          have NB411_403 := n6_
                          clear n0_ n1_ n2_ n3_ n4_ n5_ n6_
                          clear hb hbox hg
                          refine hK.out _ _ ⟨(blk_cell BK403.out 0).trans rfl, (blk_cell BK403.out 1).trans rfl⟩ (fun hHeld => ?_)
                          clear hK K
                          refine norm_ (a' := ?_) ?_ ?_
                          rotate_left
                          · show Act.put _ (some 8) _ = _
                            simp only [Act.put, List.setIfInBounds_toArray, List.set_cons_zero, List.set_cons_succ, i64_w, i32_w]
                            rfl
                          exact norm_ (by first | (simp only [putAll, Act.put, List.setIfInBounds_toArray, List.set_cons_zero, List.set_cons_succ]; done) | (simp only [putAll, Act.put, List.setIfInBounds_toArray, List.set_cons_zero, List.set_cons_succ]; rfl)) (hJ9 (gb411) _ ⟨hHeld, (by (with_reducible repeat (first | refine blk_drewN ?_ _ | refine blk_drew ?_ | refine blk_alloc ?_ _)); exact BK403.out), (by (with_reducible repeat (first | refine blk_drewN ?_ _ | refine blk_drew ?_ | refine blk_alloc ?_ _)); exact BK411.out), GW411.out, GE411.out, NB403_411.out, NB411_403.out, (by repeat (first | (with_reducible first | exact HB.out | apply below_alloc | apply pw_below_drewN | apply below_drew1 | refine below_set ?_ GE403.out | refine below_set ?_ GE411.out) | exact HB.out))⟩)
                      · skip
                        rintro gb411 w14 ⟨hS_, h0_, h1_, h2_, h3_, h4_, h5_, h6_⟩
                        have n0_ : Aside0 (w14.heap[gb403]? = some (.cells #[.bool a2_0, .bool a2_1] 30 (0, 0))) := ⟨h0_⟩
                        have n1_ : Aside0 (w14.heap[gb411]? = some (.cells #[.int .i64 0, .int .i64 0, .string (⟨#[]⟩ : ByteArray)] 23 (0, 0))) := ⟨h1_⟩
                        have n2_ : Aside0 (w.heap.size ≤ gb411) := ⟨h2_⟩
                        have n3_ : Aside0 (w.heap.size ≤ gb411) := ⟨h3_⟩
                        have n4_ : Aside0 (gb403 ≠ gb411) := ⟨h4_⟩
                        have n5_ : Aside0 (gb411 ≠ gb403) := ⟨h5_⟩
                        have n6_ : Aside0 (Below w.heap.size w w14) := ⟨h6_⟩
                        clear BK403
                        clear HB
                        clear h0_ h1_ h2_ h3_ h4_ h5_ h6_
                        have BK403 := n0_
                        have BK411 := n1_
                        have GW411 := n2_
                        have GE411 := n3_
                        have NB403_411 := n4_
                        have NB411_403 := n5_
                        have HB := n6_
                        clear n0_ n1_ n2_ n3_ n4_ n5_ n6_
                        have hHeld : w14.cell? ⟨gb403, 0, none⟩ = some (.bool a2_0) ∧ w14.cell? ⟨gb403, 1, none⟩ = some (.bool a2_1) := hS_
                        refine norm_ (a' := ?_) ?_ ?_
                        rotate_left
                        · simp only [putAll, Act.put, List.setIfInBounds_toArray, List.set_cons_zero, List.set_cons_succ]
                          rfl
                        refine two_ (i := 3) (j := 8) (Ni := some 32) (Nj := some 7) #[true, true, true, true, true, true, true, false, false, true, false, false] #[true, true, true, false, true, true, true, false, true, true, false, false] rfl rfl rfl rfl (two_of HT_.out (by kernel_rfl)) (by decide) (by decide) (fun K hK => ?_) (fun K hK => ?_)
                        · skip
                          refine goes_ Try.func13 (by kernel_rfl) rfl #[.int .i64 a0, .bool a2_0] (by rfl) rfl rfl (by (try simp only [List.map_toArray, List.map_cons, List.map_nil]); first | done | rfl | (simp only [List.length_drop, List.length_take]; rfl)) ?_
                          with_reducible refine (marqueelaw02_value.calls a0 a2_0 t404 t405 t406 _ A4.out).mono ?_
                          rintro e w15 ⟨rfl, hb⟩
                          refine ⟨_, rfl, ?_⟩
                          have n0_ := Aside0.mk (blk_below (g := gb403) (o := .cells #[.bool a2_0, .bool a2_1] 30 (0, 0)) (by (with_reducible repeat (first | refine blk_drewN ?_ _ | refine blk_drew ?_ | refine blk_alloc ?_ _)); exact BK403.out) hb)
                          have n1_ := Aside0.mk (blk_below (g := gb411) (o := .cells #[.int .i64 0, .int .i64 0, .string (⟨#[]⟩ : ByteArray)] 23 (0, 0)) (by (with_reducible repeat (first | refine blk_drewN ?_ _ | refine blk_drew ?_ | refine blk_alloc ?_ _)); exact BK411.out) hb)
                          have n2_ := Aside0.mk (below_step (by repeat (first | (with_reducible first | exact HB.out | apply below_alloc | apply pw_below_drewN | apply below_drew1 | refine below_set ?_ GE403.out | refine below_set ?_ GE411.out) | exact HB.out)) hb)
                          clear BK403
                          clear BK411
                          clear HB
                          have BK403 := n0_
                          have BK411 := n1_
                          have HB := n2_
                          clear n0_ n1_ n2_
                          (try clear hb)
                          (try clear hb2)
                          (try clear hk)
                          (try clear hi)
                          refine hK.out _ _ ⟨(blk_cell BK403.out 0).trans rfl, (blk_cell BK403.out 1).trans rfl⟩ (fun hHeld => ?_)
                          clear hK K
                          refine norm_ (a' := ?_) ?_ ?_
                          rotate_left
                          · show Act.put _ (some 32) _ = _
                            simp only [Act.put, List.setIfInBounds_toArray, List.set_cons_zero, List.set_cons_succ, i64_w, i32_w]
                            rfl
                          exact norm_ (by first | (simp only [putAll, Act.put, List.setIfInBounds_toArray, List.set_cons_zero, List.set_cons_succ]; done) | (simp only [putAll, Act.put, List.setIfInBounds_toArray, List.set_cons_zero, List.set_cons_succ]; rfl)) (hJ3_9 (gb411) _ ⟨hHeld, (by (with_reducible repeat (first | refine blk_drewN ?_ _ | refine blk_drew ?_ | refine blk_alloc ?_ _)); exact BK403.out), (by (with_reducible repeat (first | refine blk_drewN ?_ _ | refine blk_drew ?_ | refine blk_alloc ?_ _)); exact BK411.out), GW411.out, GE411.out, NB403_411.out, NB411_403.out, (by repeat (first | (with_reducible first | exact HB.out | apply below_alloc | apply pw_below_drewN | apply below_drew1 | refine below_set ?_ GE403.out | refine below_set ?_ GE411.out) | exact HB.out))⟩)
                        · skip
                          refine box_step ?hg (N := 7) ?hd (cs := #[.int .i64 0, .int .i64 0, .string (⟨#[]⟩ : ByteArray)]) (t := 23) ?hr ?_; (case hd => rfl); (case hg => rfl); (case hr => first | (go_simp; done) | (go_simp; rfl))
                          intro gb410 hg w15 hbox hb
                          have n0_ := Aside0.mk (blk_below (g := gb403) (o := .cells #[.bool a2_0, .bool a2_1] 30 (0, 0)) (by (with_reducible repeat (first | refine blk_drewN ?_ _ | refine blk_drew ?_ | refine blk_alloc ?_ _)); exact BK403.out) hb)
                          have n1_ := Aside0.mk (blk_below (g := gb411) (o := .cells #[.int .i64 0, .int .i64 0, .string (⟨#[]⟩ : ByteArray)] 23 (0, 0)) (by (with_reducible repeat (first | refine blk_drewN ?_ _ | refine blk_drew ?_ | refine blk_alloc ?_ _)); exact BK411.out) hb)
                          have n2_ := Aside0.mk (below_step (by repeat (first | (with_reducible first | exact HB.out | apply below_alloc | apply pw_below_drewN | apply below_drew1 | refine below_set ?_ GE403.out | refine below_set ?_ GE411.out) | exact HB.out)) hb)
                          have n3_ := Aside0.mk (hbox)
                          have n4_ := Aside0.mk ((by rw [hg]; exact (below_size (by repeat (first | (with_reducible first | exact HB.out | apply below_alloc | apply pw_below_drewN | apply below_drew1 | refine below_set ?_ GE403.out | refine below_set ?_ GE411.out) | exact HB.out))) : w.heap.size ≤ gb410))
                          have n5_ := Aside0.mk ((by rw [hg]; exact (below_size (by repeat (first | (with_reducible first | exact HB.out | apply below_alloc | apply pw_below_drewN | apply below_drew1 | refine below_set ?_ GE403.out | refine below_set ?_ GE411.out) | exact HB.out))) : w.heap.size ≤ gb410))
                          have n6_ := Aside0.mk ((by rw [hg]; exact Nat.ne_of_lt (blk_lt (g := gb403) (o := .cells #[.bool a2_0, .bool a2_1] 30 (0, 0)) (by (with_reducible repeat (first | refine blk_drewN ?_ _ | refine blk_drew ?_ | refine blk_alloc ?_ _)); exact BK403.out)) : gb403 ≠ gb410))
                          have n7_ := Aside0.mk ((by rw [hg]; exact Nat.ne_of_gt (blk_lt (g := gb403) (o := .cells #[.bool a2_0, .bool a2_1] 30 (0, 0)) (by (with_reducible repeat (first | refine blk_drewN ?_ _ | refine blk_drew ?_ | refine blk_alloc ?_ _)); exact BK403.out)) : gb410 ≠ gb403))
                          have n8_ := Aside0.mk ((by rw [hg]; exact Nat.ne_of_lt (blk_lt (g := gb411) (o := .cells #[.int .i64 0, .int .i64 0, .string (⟨#[]⟩ : ByteArray)] 23 (0, 0)) (by (with_reducible repeat (first | refine blk_drewN ?_ _ | refine blk_drew ?_ | refine blk_alloc ?_ _)); exact BK411.out)) : gb411 ≠ gb410))
                          have n9_ := Aside0.mk ((by rw [hg]; exact Nat.ne_of_gt (blk_lt (g := gb411) (o := .cells #[.int .i64 0, .int .i64 0, .string (⟨#[]⟩ : ByteArray)] 23 (0, 0)) (by (with_reducible repeat (first | refine blk_drewN ?_ _ | refine blk_drew ?_ | refine blk_alloc ?_ _)); exact BK411.out)) : gb410 ≠ gb411))
                          clear BK403
                          clear BK411
                          clear HB
                          have BK403 := n0_
                          have BK411 := n1_
                          have HB := n2_
                          have BK410 := n3_
                          have GW410 := n4_
                          have GE410 := n5_
                          have NB403_410 := n6_
                          have NB410_403 := n7_
                          have NB411_410 := n8_
                          have NB410_411 := n9_
                          clear n0_ n1_ n2_ n3_ n4_ n5_ n6_ n7_ n8_ n9_
                          clear hb hbox hg
                          refine hK.out _ _ ⟨(blk_cell BK403.out 0).trans rfl, (blk_cell BK403.out 1).trans rfl⟩ (fun hHeld => ?_)
                          clear hK K
                          refine norm_ (a' := ?_) ?_ ?_
                          rotate_left
                          · show Act.put _ (some 7) _ = _
                            simp only [Act.put, List.setIfInBounds_toArray, List.set_cons_zero, List.set_cons_succ, i64_w, i32_w]
                            rfl
                          exact norm_ (by first | (simp only [putAll, Act.put, List.setIfInBounds_toArray, List.set_cons_zero, List.set_cons_succ]; done) | (simp only [putAll, Act.put, List.setIfInBounds_toArray, List.set_cons_zero, List.set_cons_succ]; rfl)) (hJ8_9 (gb410, gb411) _ ⟨hHeld, (by (with_reducible repeat (first | refine blk_drewN ?_ _ | refine blk_drew ?_ | refine blk_alloc ?_ _)); exact BK403.out), (by (with_reducible repeat (first | refine blk_drewN ?_ _ | refine blk_drew ?_ | refine blk_alloc ?_ _)); exact BK410.out), (by (with_reducible repeat (first | refine blk_drewN ?_ _ | refine blk_drew ?_ | refine blk_alloc ?_ _)); exact BK411.out), GW410.out, GE410.out, NB403_410.out, NB410_403.out, NB411_410.out, NB410_411.out, GW411.out, GE411.out, NB403_411.out, NB411_403.out, (by repeat (first | (with_reducible first | exact HB.out | apply below_alloc | apply pw_below_drewN | apply below_drew1 | refine below_set ?_ GE403.out | refine below_set ?_ GE411.out | refine below_set ?_ GE410.out) | exact HB.out))⟩)
                    · skip
                      rintro gb410 w14 ⟨hS_, h0_, h1_, h2_, h3_, h4_, h5_, h6_⟩
                      have n0_ : Aside0 (w14.heap[gb403]? = some (.cells #[.bool a2_0, .bool a2_1] 30 (0, 0))) := ⟨h0_⟩
                      have n1_ : Aside0 (w14.heap[gb410]? = some (.cells #[.int .i64 0, .int .i64 0, .string (⟨#[]⟩ : ByteArray)] 23 (0, 0))) := ⟨h1_⟩
                      have n2_ : Aside0 (w.heap.size ≤ gb410) := ⟨h2_⟩
                      have n3_ : Aside0 (w.heap.size ≤ gb410) := ⟨h3_⟩
                      have n4_ : Aside0 (gb403 ≠ gb410) := ⟨h4_⟩
                      have n5_ : Aside0 (gb410 ≠ gb403) := ⟨h5_⟩
                      have n6_ : Aside0 (Below w.heap.size w w14) := ⟨h6_⟩
                      clear BK403
                      clear HB
                      clear h0_ h1_ h2_ h3_ h4_ h5_ h6_
                      have BK403 := n0_
                      have BK410 := n1_
                      have GW410 := n2_
                      have GE410 := n3_
                      have NB403_410 := n4_
                      have NB410_403 := n5_
                      have HB := n6_
                      clear n0_ n1_ n2_ n3_ n4_ n5_ n6_
                      have hHeld : w14.cell? ⟨gb403, 0, none⟩ = some (.bool a2_0) ∧ w14.cell? ⟨gb403, 1, none⟩ = some (.bool a2_1) := hS_
                      refine norm_ (a' := ?_) ?_ ?_
                      rotate_left
                      · simp only [putAll, Act.put, List.setIfInBounds_toArray, List.set_cons_zero, List.set_cons_succ]
                        rfl
                      refine two_ (i := 3) (j := 9) (Ni := some 32) (Nj := some 8) #[true, true, true, true, true, true, true, false, true, false, false, false] #[true, true, true, false, true, true, true, false, true, true, false, false] rfl rfl rfl rfl (two_of HT_.out (by kernel_rfl)) (by decide) (by decide) (fun K hK => ?_) (fun K hK => ?_)
                      · skip
                        refine goes_ Try.func13 (by kernel_rfl) rfl #[.int .i64 a0, .bool a2_0] (by rfl) rfl rfl (by (try simp only [List.map_toArray, List.map_cons, List.map_nil]); first | done | rfl | (simp only [List.length_drop, List.length_take]; rfl)) ?_
                        with_reducible refine (marqueelaw02_value.calls a0 a2_0 t404 t405 t406 _ A4.out).mono ?_
                        rintro e w15 ⟨rfl, hb⟩
                        refine ⟨_, rfl, ?_⟩
                        have n0_ := Aside0.mk (blk_below (g := gb403) (o := .cells #[.bool a2_0, .bool a2_1] 30 (0, 0)) (by (with_reducible repeat (first | refine blk_drewN ?_ _ | refine blk_drew ?_ | refine blk_alloc ?_ _)); exact BK403.out) hb)
                        have n1_ := Aside0.mk (blk_below (g := gb410) (o := .cells #[.int .i64 0, .int .i64 0, .string (⟨#[]⟩ : ByteArray)] 23 (0, 0)) (by (with_reducible repeat (first | refine blk_drewN ?_ _ | refine blk_drew ?_ | refine blk_alloc ?_ _)); exact BK410.out) hb)
                        have n2_ := Aside0.mk (below_step (by repeat (first | (with_reducible first | exact HB.out | apply below_alloc | apply pw_below_drewN | apply below_drew1 | refine below_set ?_ GE403.out | refine below_set ?_ GE410.out) | exact HB.out)) hb)
                        clear BK403
                        clear BK410
                        clear HB
                        have BK403 := n0_
                        have BK410 := n1_
                        have HB := n2_
                        clear n0_ n1_ n2_
                        (try clear hb)
                        (try clear hb2)
                        (try clear hk)
                        (try clear hi)
                        refine hK.out _ _ ⟨(blk_cell BK403.out 0).trans rfl, (blk_cell BK403.out 1).trans rfl⟩ (fun hHeld => ?_)
                        clear hK K
                        refine norm_ (a' := ?_) ?_ ?_
                        rotate_left
                        · show Act.put _ (some 32) _ = _
                          simp only [Act.put, List.setIfInBounds_toArray, List.set_cons_zero, List.set_cons_succ, i64_w, i32_w]
                          rfl
                        exact norm_ (by first | (simp only [putAll, Act.put, List.setIfInBounds_toArray, List.set_cons_zero, List.set_cons_succ]; done) | (simp only [putAll, Act.put, List.setIfInBounds_toArray, List.set_cons_zero, List.set_cons_succ]; rfl)) (hJ3_8 (gb410) _ ⟨hHeld, (by (with_reducible repeat (first | refine blk_drewN ?_ _ | refine blk_drew ?_ | refine blk_alloc ?_ _)); exact BK403.out), (by (with_reducible repeat (first | refine blk_drewN ?_ _ | refine blk_drew ?_ | refine blk_alloc ?_ _)); exact BK410.out), GW410.out, GE410.out, NB403_410.out, NB410_403.out, (by repeat (first | (with_reducible first | exact HB.out | apply below_alloc | apply pw_below_drewN | apply below_drew1 | refine below_set ?_ GE403.out | refine below_set ?_ GE410.out) | exact HB.out))⟩)
                      · skip
                        refine box_step ?hg (N := 8) ?hd (cs := #[.int .i64 0, .int .i64 0, .string (⟨#[]⟩ : ByteArray)]) (t := 23) ?hr ?_; (case hd => rfl); (case hg => rfl); (case hr => first | (go_simp; done) | (go_simp; rfl))
                        intro gb411 hg w15 hbox hb
                        have n0_ := Aside0.mk (blk_below (g := gb403) (o := .cells #[.bool a2_0, .bool a2_1] 30 (0, 0)) (by (with_reducible repeat (first | refine blk_drewN ?_ _ | refine blk_drew ?_ | refine blk_alloc ?_ _)); exact BK403.out) hb)
                        have n1_ := Aside0.mk (blk_below (g := gb410) (o := .cells #[.int .i64 0, .int .i64 0, .string (⟨#[]⟩ : ByteArray)] 23 (0, 0)) (by (with_reducible repeat (first | refine blk_drewN ?_ _ | refine blk_drew ?_ | refine blk_alloc ?_ _)); exact BK410.out) hb)
                        have n2_ := Aside0.mk (below_step (by repeat (first | (with_reducible first | exact HB.out | apply below_alloc | apply pw_below_drewN | apply below_drew1 | refine below_set ?_ GE403.out | refine below_set ?_ GE410.out) | exact HB.out)) hb)
                        have n3_ := Aside0.mk (hbox)
                        have n4_ := Aside0.mk ((by rw [hg]; exact (below_size (by repeat (first | (with_reducible first | exact HB.out | apply below_alloc | apply pw_below_drewN | apply below_drew1 | refine below_set ?_ GE403.out | refine below_set ?_ GE410.out) | exact HB.out))) : w.heap.size ≤ gb411))
                        have n5_ := Aside0.mk ((by rw [hg]; exact (below_size (by repeat (first | (with_reducible first | exact HB.out | apply below_alloc | apply pw_below_drewN | apply below_drew1 | refine below_set ?_ GE403.out | refine below_set ?_ GE410.out) | exact HB.out))) : w.heap.size ≤ gb411))
                        have n6_ := Aside0.mk ((by rw [hg]; exact Nat.ne_of_lt (blk_lt (g := gb403) (o := .cells #[.bool a2_0, .bool a2_1] 30 (0, 0)) (by (with_reducible repeat (first | refine blk_drewN ?_ _ | refine blk_drew ?_ | refine blk_alloc ?_ _)); exact BK403.out)) : gb403 ≠ gb411))
                        have n7_ := Aside0.mk ((by rw [hg]; exact Nat.ne_of_gt (blk_lt (g := gb403) (o := .cells #[.bool a2_0, .bool a2_1] 30 (0, 0)) (by (with_reducible repeat (first | refine blk_drewN ?_ _ | refine blk_drew ?_ | refine blk_alloc ?_ _)); exact BK403.out)) : gb411 ≠ gb403))
                        have n8_ := Aside0.mk ((by rw [hg]; exact Nat.ne_of_lt (blk_lt (g := gb410) (o := .cells #[.int .i64 0, .int .i64 0, .string (⟨#[]⟩ : ByteArray)] 23 (0, 0)) (by (with_reducible repeat (first | refine blk_drewN ?_ _ | refine blk_drew ?_ | refine blk_alloc ?_ _)); exact BK410.out)) : gb410 ≠ gb411))
                        have n9_ := Aside0.mk ((by rw [hg]; exact Nat.ne_of_gt (blk_lt (g := gb410) (o := .cells #[.int .i64 0, .int .i64 0, .string (⟨#[]⟩ : ByteArray)] 23 (0, 0)) (by (with_reducible repeat (first | refine blk_drewN ?_ _ | refine blk_drew ?_ | refine blk_alloc ?_ _)); exact BK410.out)) : gb411 ≠ gb410))
                        clear BK403
                        clear BK410
                        clear HB
                        have BK403 := n0_
                        have BK410 := n1_
                        have HB := n2_
                        have BK411 := n3_
                        have GW411 := n4_
                        have GE411 := n5_
                        have NB403_411 := n6_
                        have NB411_403 := n7_
                        have NB410_411 := n8_
                        have NB411_410 := n9_
                        clear n0_ n1_ n2_ n3_ n4_ n5_ n6_ n7_ n8_ n9_
                        clear hb hbox hg
                        refine hK.out _ _ ⟨(blk_cell BK403.out 0).trans rfl, (blk_cell BK403.out 1).trans rfl⟩ (fun hHeld => ?_)
                        clear hK K
                        refine norm_ (a' := ?_) ?_ ?_
                        rotate_left
                        · show Act.put _ (some 8) _ = _
                          simp only [Act.put, List.setIfInBounds_toArray, List.set_cons_zero, List.set_cons_succ, i64_w, i32_w]
                          rfl
                        exact norm_ (by first | (simp only [putAll, Act.put, List.setIfInBounds_toArray, List.set_cons_zero, List.set_cons_succ]; done) | (simp only [putAll, Act.put, List.setIfInBounds_toArray, List.set_cons_zero, List.set_cons_succ]; rfl)) (hJ8_9 (gb410, gb411) _ ⟨hHeld, (by (with_reducible repeat (first | refine blk_drewN ?_ _ | refine blk_drew ?_ | refine blk_alloc ?_ _)); exact BK403.out), (by (with_reducible repeat (first | refine blk_drewN ?_ _ | refine blk_drew ?_ | refine blk_alloc ?_ _)); exact BK410.out), (by (with_reducible repeat (first | refine blk_drewN ?_ _ | refine blk_drew ?_ | refine blk_alloc ?_ _)); exact BK411.out), GW410.out, GE410.out, NB403_410.out, NB410_403.out, NB411_410.out, NB410_411.out, GW411.out, GE411.out, NB403_411.out, NB411_403.out, (by repeat (first | (with_reducible first | exact HB.out | apply below_alloc | apply pw_below_drewN | apply below_drew1 | refine below_set ?_ GE403.out | refine below_set ?_ GE410.out | refine below_set ?_ GE411.out) | exact HB.out))⟩)
                  · skip
                    rintro _ w14 ⟨hS_, h0_, h1_⟩
                    have n0_ : Aside0 (w14.heap[gb403]? = some (.cells #[.bool a2_0, .bool a2_1] 30 (0, 0))) := ⟨h0_⟩
                    have n1_ : Aside0 (Below w.heap.size w w14) := ⟨h1_⟩
                    clear BK403
                    clear HB
                    clear h0_ h1_
                    have BK403 := n0_
                    have HB := n1_
                    clear n0_ n1_
                    have hHeld : w14.cell? ⟨gb403, 0, none⟩ = some (.bool a2_0) ∧ w14.cell? ⟨gb403, 1, none⟩ = some (.bool a2_1) := hS_
                    refine norm_ (a' := ?_) ?_ ?_
                    rotate_left
                    · simp only [putAll, Act.put, List.setIfInBounds_toArray, List.set_cons_zero, List.set_cons_succ]
                      rfl
                    refine three_ (i := 7) (j := 8) (k := 9) (Ni := some 36) (Nj := some 7) (Nk := some 8) #[true, true, true, true, true, true, true, true, false, false, false, false] #[true, true, true, true, true, true, true, false, true, false, false, false] #[true, true, true, true, true, true, true, false, false, true, false, false] rfl rfl rfl rfl rfl rfl (three_of HT_.out (by kernel_rfl)) (by decide) (by decide) (by decide) (fun K hK => ?_) (fun K hK => ?_) (fun K hK => ?_)
                    · skip
                      refine goes_ Try.func13 (by kernel_rfl) rfl #[.int .i64 a1, .bool a2_1] (by rfl) rfl rfl (by (try simp only [List.map_toArray, List.map_cons, List.map_nil]); first | done | rfl | (simp only [List.length_drop, List.length_take]; rfl)) ?_
                      with_reducible refine (marqueelaw02_value.calls a1 a2_1 t407 t408 t409 _ A5.out).mono ?_
                      rintro e w15 ⟨rfl, hb⟩
                      refine ⟨_, rfl, ?_⟩
                      have n0_ := Aside0.mk (blk_below (g := gb403) (o := .cells #[.bool a2_0, .bool a2_1] 30 (0, 0)) (by (with_reducible repeat (first | refine blk_drewN ?_ _ | refine blk_drew ?_ | refine blk_alloc ?_ _)); exact BK403.out) hb)
                      have n1_ := Aside0.mk (below_step (by repeat (first | (with_reducible first | exact HB.out | apply below_alloc | apply pw_below_drewN | apply below_drew1 | refine below_set ?_ GE403.out) | exact HB.out)) hb)
                      clear BK403
                      clear HB
                      have BK403 := n0_
                      have HB := n1_
                      clear n0_ n1_
                      (try clear hb)
                      (try clear hb2)
                      (try clear hk)
                      (try clear hi)
                      refine hK.out _ _ ⟨(blk_cell BK403.out 0).trans rfl, (blk_cell BK403.out 1).trans rfl⟩ (fun hHeld => ?_)
                      clear hK K
                      refine norm_ (a' := ?_) ?_ ?_
                      rotate_left
                      · show Act.put _ (some 36) _ = _
                        simp only [Act.put, List.setIfInBounds_toArray, List.set_cons_zero, List.set_cons_succ, i64_w, i32_w]
                        rfl
                      exact norm_ (by first | (simp only [putAll, Act.put, List.setIfInBounds_toArray, List.set_cons_zero, List.set_cons_succ]; done) | (simp only [putAll, Act.put, List.setIfInBounds_toArray, List.set_cons_zero, List.set_cons_succ]; rfl)) (hJ3_7 () _ ⟨hHeld, (by (with_reducible repeat (first | refine blk_drewN ?_ _ | refine blk_drew ?_ | refine blk_alloc ?_ _)); exact BK403.out), (by repeat (first | (with_reducible first | exact HB.out | apply below_alloc | apply pw_below_drewN | apply below_drew1 | refine below_set ?_ GE403.out) | exact HB.out))⟩)
                    · skip
                      refine box_step ?hg (N := 7) ?hd (cs := #[.int .i64 0, .int .i64 0, .string (⟨#[]⟩ : ByteArray)]) (t := 23) ?hr ?_; (case hd => rfl); (case hg => rfl); (case hr => first | (go_simp; done) | (go_simp; rfl))
                      intro gb410 hg w15 hbox hb
                      have n0_ := Aside0.mk (blk_below (g := gb403) (o := .cells #[.bool a2_0, .bool a2_1] 30 (0, 0)) (by (with_reducible repeat (first | refine blk_drewN ?_ _ | refine blk_drew ?_ | refine blk_alloc ?_ _)); exact BK403.out) hb)
                      have n1_ := Aside0.mk (below_step (by repeat (first | (with_reducible first | exact HB.out | apply below_alloc | apply pw_below_drewN | apply below_drew1 | refine below_set ?_ GE403.out) | exact HB.out)) hb)
                      have n2_ := Aside0.mk (hbox)
                      have n3_ := Aside0.mk ((by rw [hg]; exact (below_size (by repeat (first | (with_reducible first | exact HB.out | apply below_alloc | apply pw_below_drewN | apply below_drew1 | refine below_set ?_ GE403.out) | exact HB.out))) : w.heap.size ≤ gb410))
                      have n4_ := Aside0.mk ((by rw [hg]; exact (below_size (by repeat (first | (with_reducible first | exact HB.out | apply below_alloc | apply pw_below_drewN | apply below_drew1 | refine below_set ?_ GE403.out) | exact HB.out))) : w.heap.size ≤ gb410))
                      have n5_ := Aside0.mk ((by rw [hg]; exact Nat.ne_of_lt (blk_lt (g := gb403) (o := .cells #[.bool a2_0, .bool a2_1] 30 (0, 0)) (by (with_reducible repeat (first | refine blk_drewN ?_ _ | refine blk_drew ?_ | refine blk_alloc ?_ _)); exact BK403.out)) : gb403 ≠ gb410))
                      have n6_ := Aside0.mk ((by rw [hg]; exact Nat.ne_of_gt (blk_lt (g := gb403) (o := .cells #[.bool a2_0, .bool a2_1] 30 (0, 0)) (by (with_reducible repeat (first | refine blk_drewN ?_ _ | refine blk_drew ?_ | refine blk_alloc ?_ _)); exact BK403.out)) : gb410 ≠ gb403))
                      clear BK403
                      clear HB
                      have BK403 := n0_
                      have HB := n1_
                      have BK410 := n2_
                      have GW410 := n3_
                      have GE410 := n4_
                      have NB403_410 := n5_
                      have NB410_403 := n6_
                      clear n0_ n1_ n2_ n3_ n4_ n5_ n6_
                      clear hb hbox hg
                      refine hK.out _ _ ⟨(blk_cell BK403.out 0).trans rfl, (blk_cell BK403.out 1).trans rfl⟩ (fun hHeld => ?_)
                      clear hK K
                      refine norm_ (a' := ?_) ?_ ?_
                      rotate_left
                      · show Act.put _ (some 7) _ = _
                        simp only [Act.put, List.setIfInBounds_toArray, List.set_cons_zero, List.set_cons_succ, i64_w, i32_w]
                        rfl
                      exact norm_ (by first | (simp only [putAll, Act.put, List.setIfInBounds_toArray, List.set_cons_zero, List.set_cons_succ]; done) | (simp only [putAll, Act.put, List.setIfInBounds_toArray, List.set_cons_zero, List.set_cons_succ]; rfl)) (hJ3_8 (gb410) _ ⟨hHeld, (by (with_reducible repeat (first | refine blk_drewN ?_ _ | refine blk_drew ?_ | refine blk_alloc ?_ _)); exact BK403.out), (by (with_reducible repeat (first | refine blk_drewN ?_ _ | refine blk_drew ?_ | refine blk_alloc ?_ _)); exact BK410.out), GW410.out, GE410.out, NB403_410.out, NB410_403.out, (by repeat (first | (with_reducible first | exact HB.out | apply below_alloc | apply pw_below_drewN | apply below_drew1 | refine below_set ?_ GE403.out | refine below_set ?_ GE410.out) | exact HB.out))⟩)
                    · skip
                      refine box_step ?hg (N := 8) ?hd (cs := #[.int .i64 0, .int .i64 0, .string (⟨#[]⟩ : ByteArray)]) (t := 23) ?hr ?_; (case hd => rfl); (case hg => rfl); (case hr => first | (go_simp; done) | (go_simp; rfl))
                      intro gb411 hg w15 hbox hb
                      have n0_ := Aside0.mk (blk_below (g := gb403) (o := .cells #[.bool a2_0, .bool a2_1] 30 (0, 0)) (by (with_reducible repeat (first | refine blk_drewN ?_ _ | refine blk_drew ?_ | refine blk_alloc ?_ _)); exact BK403.out) hb)
                      have n1_ := Aside0.mk (below_step (by repeat (first | (with_reducible first | exact HB.out | apply below_alloc | apply pw_below_drewN | apply below_drew1 | refine below_set ?_ GE403.out) | exact HB.out)) hb)
                      have n2_ := Aside0.mk (hbox)
                      have n3_ := Aside0.mk ((by rw [hg]; exact (below_size (by repeat (first | (with_reducible first | exact HB.out | apply below_alloc | apply pw_below_drewN | apply below_drew1 | refine below_set ?_ GE403.out) | exact HB.out))) : w.heap.size ≤ gb411))
                      have n4_ := Aside0.mk ((by rw [hg]; exact (below_size (by repeat (first | (with_reducible first | exact HB.out | apply below_alloc | apply pw_below_drewN | apply below_drew1 | refine below_set ?_ GE403.out) | exact HB.out))) : w.heap.size ≤ gb411))
                      have n5_ := Aside0.mk ((by rw [hg]; exact Nat.ne_of_lt (blk_lt (g := gb403) (o := .cells #[.bool a2_0, .bool a2_1] 30 (0, 0)) (by (with_reducible repeat (first | refine blk_drewN ?_ _ | refine blk_drew ?_ | refine blk_alloc ?_ _)); exact BK403.out)) : gb403 ≠ gb411))
                      have n6_ := Aside0.mk ((by rw [hg]; exact Nat.ne_of_gt (blk_lt (g := gb403) (o := .cells #[.bool a2_0, .bool a2_1] 30 (0, 0)) (by (with_reducible repeat (first | refine blk_drewN ?_ _ | refine blk_drew ?_ | refine blk_alloc ?_ _)); exact BK403.out)) : gb411 ≠ gb403))
                      clear BK403
                      clear HB
                      have BK403 := n0_
                      have HB := n1_
                      have BK411 := n2_
                      have GW411 := n3_
                      have GE411 := n4_
                      have NB403_411 := n5_
                      have NB411_403 := n6_
                      clear n0_ n1_ n2_ n3_ n4_ n5_ n6_
                      clear hb hbox hg
                      refine hK.out _ _ ⟨(blk_cell BK403.out 0).trans rfl, (blk_cell BK403.out 1).trans rfl⟩ (fun hHeld => ?_)
                      clear hK K
                      refine norm_ (a' := ?_) ?_ ?_
                      rotate_left
                      · show Act.put _ (some 8) _ = _
                        simp only [Act.put, List.setIfInBounds_toArray, List.set_cons_zero, List.set_cons_succ, i64_w, i32_w]
                        rfl
                      exact norm_ (by first | (simp only [putAll, Act.put, List.setIfInBounds_toArray, List.set_cons_zero, List.set_cons_succ]; done) | (simp only [putAll, Act.put, List.setIfInBounds_toArray, List.set_cons_zero, List.set_cons_succ]; rfl)) (hJ3_9 (gb411) _ ⟨hHeld, (by (with_reducible repeat (first | refine blk_drewN ?_ _ | refine blk_drew ?_ | refine blk_alloc ?_ _)); exact BK403.out), (by (with_reducible repeat (first | refine blk_drewN ?_ _ | refine blk_drew ?_ | refine blk_alloc ?_ _)); exact BK411.out), GW411.out, GE411.out, NB403_411.out, NB411_403.out, (by repeat (first | (with_reducible first | exact HB.out | apply below_alloc | apply pw_below_drewN | apply below_drew1 | refine below_set ?_ GE403.out | refine below_set ?_ GE411.out) | exact HB.out))⟩)
                · skip
                  rintro ⟨gb410, gb411⟩ w15 ⟨hS_, h0_, h1_, h2_, h3_, h4_, h5_, h6_, h7_, h8_, h9_, h10_, h11_, h12_, h13_⟩
                  have n0_ : Aside0 (w15.heap[gb403]? = some (.cells #[.bool a2_0, .bool a2_1] 30 (0, 0))) := ⟨h0_⟩
                  have n1_ : Aside0 (w15.heap[gb410]? = some (.cells #[.int .i64 0, .int .i64 0, .string (⟨#[]⟩ : ByteArray)] 23 (0, 0))) := ⟨h1_⟩
                  have n2_ : Aside0 (w15.heap[gb411]? = some (.cells #[.int .i64 0, .int .i64 0, .string (⟨#[]⟩ : ByteArray)] 23 (0, 0))) := ⟨h2_⟩
                  have n3_ : Aside0 (w.heap.size ≤ gb410) := ⟨h3_⟩
                  have n4_ : Aside0 (w.heap.size ≤ gb410) := ⟨h4_⟩
                  have n5_ : Aside0 (gb403 ≠ gb410) := ⟨h5_⟩
                  have n6_ : Aside0 (gb410 ≠ gb403) := ⟨h6_⟩
                  have n7_ : Aside0 (gb411 ≠ gb410) := ⟨h7_⟩
                  have n8_ : Aside0 (gb410 ≠ gb411) := ⟨h8_⟩
                  have n9_ : Aside0 (w.heap.size ≤ gb411) := ⟨h9_⟩
                  have n10_ : Aside0 (w.heap.size ≤ gb411) := ⟨h10_⟩
                  have n11_ : Aside0 (gb403 ≠ gb411) := ⟨h11_⟩
                  have n12_ : Aside0 (gb411 ≠ gb403) := ⟨h12_⟩
                  have n13_ : Aside0 (Below w.heap.size w w15) := ⟨h13_⟩
                  clear BK403
                  clear HB
                  clear h0_ h1_ h2_ h3_ h4_ h5_ h6_ h7_ h8_ h9_ h10_ h11_ h12_ h13_
                  have BK403 := n0_
                  have BK410 := n1_
                  have BK411 := n2_
                  have GW410 := n3_
                  have GE410 := n4_
                  have NB403_410 := n5_
                  have NB410_403 := n6_
                  have NB411_410 := n7_
                  have NB410_411 := n8_
                  have GW411 := n9_
                  have GE411 := n10_
                  have NB403_411 := n11_
                  have NB411_403 := n12_
                  have HB := n13_
                  clear n0_ n1_ n2_ n3_ n4_ n5_ n6_ n7_ n8_ n9_ n10_ n11_ n12_ n13_
                  have hHeld : w15.cell? ⟨gb403, 0, none⟩ = some (.bool a2_0) ∧ w15.cell? ⟨gb403, 1, none⟩ = some (.bool a2_1) := hS_
                  refine norm_ (a' := ?_) ?_ ?_
                  rotate_left
                  · simp only [putAll, Act.put, List.setIfInBounds_toArray, List.set_cons_zero, List.set_cons_succ]
                    rfl
                  refine one_ (i := 3) (N := some 32) #[true, true, true, true, true, true, true, false, true, true, false, false] rfl rfl (one_of HT_.out (by kernel_rfl)) (by decide) (fun K hK => ?_)
                  refine goes_ Try.func13 (by kernel_rfl) rfl #[.int .i64 a0, .bool a2_0] (by rfl) rfl rfl (by (try simp only [List.map_toArray, List.map_cons, List.map_nil]); first | done | rfl | (simp only [List.length_drop, List.length_take]; rfl)) ?_
                  with_reducible refine (marqueelaw02_value.calls a0 a2_0 t404 t405 t406 _ A4.out).mono ?_
                  rintro e w16 ⟨rfl, hb⟩
                  refine ⟨_, rfl, ?_⟩
                  have n0_ := Aside0.mk (blk_below (g := gb403) (o := .cells #[.bool a2_0, .bool a2_1] 30 (0, 0)) (by (with_reducible repeat (first | refine blk_drewN ?_ _ | refine blk_drew ?_ | refine blk_alloc ?_ _)); exact BK403.out) hb)
                  have n1_ := Aside0.mk (blk_below (g := gb410) (o := .cells #[.int .i64 0, .int .i64 0, .string (⟨#[]⟩ : ByteArray)] 23 (0, 0)) (by (with_reducible repeat (first | refine blk_drewN ?_ _ | refine blk_drew ?_ | refine blk_alloc ?_ _)); exact BK410.out) hb)
                  have n2_ := Aside0.mk (blk_below (g := gb411) (o := .cells #[.int .i64 0, .int .i64 0, .string (⟨#[]⟩ : ByteArray)] 23 (0, 0)) (by (with_reducible repeat (first | refine blk_drewN ?_ _ | refine blk_drew ?_ | refine blk_alloc ?_ _)); exact BK411.out) hb)
                  have n3_ := Aside0.mk (below_step (by repeat (first | (with_reducible first | exact HB.out | apply below_alloc | apply pw_below_drewN | apply below_drew1 | refine below_set ?_ GE403.out | refine below_set ?_ GE410.out | refine below_set ?_ GE411.out) | exact HB.out)) hb)
                  clear BK403
                  clear BK410
                  clear BK411
                  clear HB
                  have BK403 := n0_
                  have BK410 := n1_
                  have BK411 := n2_
                  have HB := n3_
                  clear n0_ n1_ n2_ n3_
                  (try clear hb)
                  (try clear hb2)
                  (try clear hk)
                  (try clear hi)
                  refine hK.out _ _ ⟨(blk_cell BK403.out 0).trans rfl, (blk_cell BK403.out 1).trans rfl⟩ (fun hHeld => ?_)
                  clear hK K
                  refine norm_ (a' := ?_) ?_ ?_
                  rotate_left
                  · show Act.put _ (some 32) _ = _
                    simp only [Act.put, List.setIfInBounds_toArray, List.set_cons_zero, List.set_cons_succ, i64_w, i32_w]
                    rfl
                  exact norm_ (by first | (simp only [putAll, Act.put, List.setIfInBounds_toArray, List.set_cons_zero, List.set_cons_succ]; done) | (simp only [putAll, Act.put, List.setIfInBounds_toArray, List.set_cons_zero, List.set_cons_succ]; rfl)) (hJ3_8_9 (gb410, gb411) _ ⟨hHeld, (by (with_reducible repeat (first | refine blk_drewN ?_ _ | refine blk_drew ?_ | refine blk_alloc ?_ _)); exact BK403.out), (by (with_reducible repeat (first | refine blk_drewN ?_ _ | refine blk_drew ?_ | refine blk_alloc ?_ _)); exact BK410.out), (by (with_reducible repeat (first | refine blk_drewN ?_ _ | refine blk_drew ?_ | refine blk_alloc ?_ _)); exact BK411.out), GW410.out, GE410.out, NB403_410.out, NB410_403.out, NB411_410.out, NB410_411.out, GW411.out, GE411.out, NB403_411.out, NB411_403.out, (by repeat (first | (with_reducible first | exact HB.out | apply below_alloc | apply pw_below_drewN | apply below_drew1 | refine below_set ?_ GE403.out | refine below_set ?_ GE410.out | refine below_set ?_ GE411.out) | exact HB.out))⟩)
              · skip
                rintro gb411 w15 ⟨hS_, h0_, h1_, h2_, h3_, h4_, h5_, h6_⟩
                have n0_ : Aside0 (w15.heap[gb403]? = some (.cells #[.bool a2_0, .bool a2_1] 30 (0, 0))) := ⟨h0_⟩
                have n1_ : Aside0 (w15.heap[gb411]? = some (.cells #[.int .i64 0, .int .i64 0, .string (⟨#[]⟩ : ByteArray)] 23 (0, 0))) := ⟨h1_⟩
                have n2_ : Aside0 (w.heap.size ≤ gb411) := ⟨h2_⟩
                have n3_ : Aside0 (w.heap.size ≤ gb411) := ⟨h3_⟩
                have n4_ : Aside0 (gb403 ≠ gb411) := ⟨h4_⟩
                have n5_ : Aside0 (gb411 ≠ gb403) := ⟨h5_⟩
                have n6_ : Aside0 (Below w.heap.size w w15) := ⟨h6_⟩
                clear BK403
                clear HB
                clear h0_ h1_ h2_ h3_ h4_ h5_ h6_
                have BK403 := n0_
                have BK411 := n1_
                have GW411 := n2_
                have GE411 := n3_
                have NB403_411 := n4_
                have NB411_403 := n5_
                have HB := n6_
                clear n0_ n1_ n2_ n3_ n4_ n5_ n6_
                have hHeld : w15.cell? ⟨gb403, 0, none⟩ = some (.bool a2_0) ∧ w15.cell? ⟨gb403, 1, none⟩ = some (.bool a2_1) := hS_
                refine norm_ (a' := ?_) ?_ ?_
                rotate_left
                · simp only [putAll, Act.put, List.setIfInBounds_toArray, List.set_cons_zero, List.set_cons_succ]
                  rfl
                refine two_ (i := 7) (j := 8) (Ni := some 36) (Nj := some 7) #[true, true, true, true, true, true, true, true, false, true, false, false] #[true, true, true, true, true, true, true, false, true, true, false, false] rfl rfl rfl rfl (two_of HT_.out (by kernel_rfl)) (by decide) (by decide) (fun K hK => ?_) (fun K hK => ?_)
                · skip
                  refine goes_ Try.func13 (by kernel_rfl) rfl #[.int .i64 a1, .bool a2_1] (by rfl) rfl rfl (by (try simp only [List.map_toArray, List.map_cons, List.map_nil]); first | done | rfl | (simp only [List.length_drop, List.length_take]; rfl)) ?_
                  with_reducible refine (marqueelaw02_value.calls a1 a2_1 t407 t408 t409 _ A5.out).mono ?_
                  rintro e w16 ⟨rfl, hb⟩
                  refine ⟨_, rfl, ?_⟩
                  have n0_ := Aside0.mk (blk_below (g := gb403) (o := .cells #[.bool a2_0, .bool a2_1] 30 (0, 0)) (by (with_reducible repeat (first | refine blk_drewN ?_ _ | refine blk_drew ?_ | refine blk_alloc ?_ _)); exact BK403.out) hb)
                  have n1_ := Aside0.mk (blk_below (g := gb411) (o := .cells #[.int .i64 0, .int .i64 0, .string (⟨#[]⟩ : ByteArray)] 23 (0, 0)) (by (with_reducible repeat (first | refine blk_drewN ?_ _ | refine blk_drew ?_ | refine blk_alloc ?_ _)); exact BK411.out) hb)
                  have n2_ := Aside0.mk (below_step (by repeat (first | (with_reducible first | exact HB.out | apply below_alloc | apply pw_below_drewN | apply below_drew1 | refine below_set ?_ GE403.out | refine below_set ?_ GE411.out) | exact HB.out)) hb)
                  clear BK403
                  clear BK411
                  clear HB
                  have BK403 := n0_
                  have BK411 := n1_
                  have HB := n2_
                  clear n0_ n1_ n2_
                  (try clear hb)
                  (try clear hb2)
                  (try clear hk)
                  (try clear hi)
                  refine hK.out _ _ ⟨(blk_cell BK403.out 0).trans rfl, (blk_cell BK403.out 1).trans rfl⟩ (fun hHeld => ?_)
                  clear hK K
                  refine norm_ (a' := ?_) ?_ ?_
                  rotate_left
                  · show Act.put _ (some 36) _ = _
                    simp only [Act.put, List.setIfInBounds_toArray, List.set_cons_zero, List.set_cons_succ, i64_w, i32_w]
                    rfl
                  exact norm_ (by first | (simp only [putAll, Act.put, List.setIfInBounds_toArray, List.set_cons_zero, List.set_cons_succ]; done) | (simp only [putAll, Act.put, List.setIfInBounds_toArray, List.set_cons_zero, List.set_cons_succ]; rfl)) (hJ3_7_9 (gb411) _ ⟨hHeld, (by (with_reducible repeat (first | refine blk_drewN ?_ _ | refine blk_drew ?_ | refine blk_alloc ?_ _)); exact BK403.out), (by (with_reducible repeat (first | refine blk_drewN ?_ _ | refine blk_drew ?_ | refine blk_alloc ?_ _)); exact BK411.out), GW411.out, GE411.out, NB403_411.out, NB411_403.out, (by repeat (first | (with_reducible first | exact HB.out | apply below_alloc | apply pw_below_drewN | apply below_drew1 | refine below_set ?_ GE403.out | refine below_set ?_ GE411.out) | exact HB.out))⟩)
                · skip
                  refine box_step ?hg (N := 7) ?hd (cs := #[.int .i64 0, .int .i64 0, .string (⟨#[]⟩ : ByteArray)]) (t := 23) ?hr ?_; (case hd => rfl); (case hg => rfl); (case hr => first | (go_simp; done) | (go_simp; rfl))
                  intro gb410 hg w16 hbox hb
                  have n0_ := Aside0.mk (blk_below (g := gb403) (o := .cells #[.bool a2_0, .bool a2_1] 30 (0, 0)) (by (with_reducible repeat (first | refine blk_drewN ?_ _ | refine blk_drew ?_ | refine blk_alloc ?_ _)); exact BK403.out) hb)
                  have n1_ := Aside0.mk (blk_below (g := gb411) (o := .cells #[.int .i64 0, .int .i64 0, .string (⟨#[]⟩ : ByteArray)] 23 (0, 0)) (by (with_reducible repeat (first | refine blk_drewN ?_ _ | refine blk_drew ?_ | refine blk_alloc ?_ _)); exact BK411.out) hb)
                  have n2_ := Aside0.mk (below_step (by repeat (first | (with_reducible first | exact HB.out | apply below_alloc | apply pw_below_drewN | apply below_drew1 | refine below_set ?_ GE403.out | refine below_set ?_ GE411.out) | exact HB.out)) hb)
                  have n3_ := Aside0.mk (hbox)
                  have n4_ := Aside0.mk ((by rw [hg]; exact (below_size (by repeat (first | (with_reducible first | exact HB.out | apply below_alloc | apply pw_below_drewN | apply below_drew1 | refine below_set ?_ GE403.out | refine below_set ?_ GE411.out) | exact HB.out))) : w.heap.size ≤ gb410))
                  have n5_ := Aside0.mk ((by rw [hg]; exact (below_size (by repeat (first | (with_reducible first | exact HB.out | apply below_alloc | apply pw_below_drewN | apply below_drew1 | refine below_set ?_ GE403.out | refine below_set ?_ GE411.out) | exact HB.out))) : w.heap.size ≤ gb410))
                  have n6_ := Aside0.mk ((by rw [hg]; exact Nat.ne_of_lt (blk_lt (g := gb403) (o := .cells #[.bool a2_0, .bool a2_1] 30 (0, 0)) (by (with_reducible repeat (first | refine blk_drewN ?_ _ | refine blk_drew ?_ | refine blk_alloc ?_ _)); exact BK403.out)) : gb403 ≠ gb410))
                  have n7_ := Aside0.mk ((by rw [hg]; exact Nat.ne_of_gt (blk_lt (g := gb403) (o := .cells #[.bool a2_0, .bool a2_1] 30 (0, 0)) (by (with_reducible repeat (first | refine blk_drewN ?_ _ | refine blk_drew ?_ | refine blk_alloc ?_ _)); exact BK403.out)) : gb410 ≠ gb403))
                  have n8_ := Aside0.mk ((by rw [hg]; exact Nat.ne_of_lt (blk_lt (g := gb411) (o := .cells #[.int .i64 0, .int .i64 0, .string (⟨#[]⟩ : ByteArray)] 23 (0, 0)) (by (with_reducible repeat (first | refine blk_drewN ?_ _ | refine blk_drew ?_ | refine blk_alloc ?_ _)); exact BK411.out)) : gb411 ≠ gb410))
                  have n9_ := Aside0.mk ((by rw [hg]; exact Nat.ne_of_gt (blk_lt (g := gb411) (o := .cells #[.int .i64 0, .int .i64 0, .string (⟨#[]⟩ : ByteArray)] 23 (0, 0)) (by (with_reducible repeat (first | refine blk_drewN ?_ _ | refine blk_drew ?_ | refine blk_alloc ?_ _)); exact BK411.out)) : gb410 ≠ gb411))
                  clear BK403
                  clear BK411
                  clear HB
                  have BK403 := n0_
                  have BK411 := n1_
                  have HB := n2_
                  have BK410 := n3_
                  have GW410 := n4_
                  have GE410 := n5_
                  have NB403_410 := n6_
                  have NB410_403 := n7_
                  have NB411_410 := n8_
                  have NB410_411 := n9_
                  clear n0_ n1_ n2_ n3_ n4_ n5_ n6_ n7_ n8_ n9_
                  clear hb hbox hg
                  refine hK.out _ _ ⟨(blk_cell BK403.out 0).trans rfl, (blk_cell BK403.out 1).trans rfl⟩ (fun hHeld => ?_)
                  clear hK K
                  refine norm_ (a' := ?_) ?_ ?_
                  rotate_left
                  · show Act.put _ (some 7) _ = _
                    simp only [Act.put, List.setIfInBounds_toArray, List.set_cons_zero, List.set_cons_succ, i64_w, i32_w]
                    rfl
                  exact norm_ (by first | (simp only [putAll, Act.put, List.setIfInBounds_toArray, List.set_cons_zero, List.set_cons_succ]; done) | (simp only [putAll, Act.put, List.setIfInBounds_toArray, List.set_cons_zero, List.set_cons_succ]; rfl)) (hJ3_8_9 (gb410, gb411) _ ⟨hHeld, (by (with_reducible repeat (first | refine blk_drewN ?_ _ | refine blk_drew ?_ | refine blk_alloc ?_ _)); exact BK403.out), (by (with_reducible repeat (first | refine blk_drewN ?_ _ | refine blk_drew ?_ | refine blk_alloc ?_ _)); exact BK410.out), (by (with_reducible repeat (first | refine blk_drewN ?_ _ | refine blk_drew ?_ | refine blk_alloc ?_ _)); exact BK411.out), GW410.out, GE410.out, NB403_410.out, NB410_403.out, NB411_410.out, NB410_411.out, GW411.out, GE411.out, NB403_411.out, NB411_403.out, (by repeat (first | (with_reducible first | exact HB.out | apply below_alloc | apply pw_below_drewN | apply below_drew1 | refine below_set ?_ GE403.out | refine below_set ?_ GE411.out | refine below_set ?_ GE410.out) | exact HB.out))⟩)
            · skip
              rintro gb410 w15 ⟨hS_, h0_, h1_, h2_, h3_, h4_, h5_, h6_⟩
              have n0_ : Aside0 (w15.heap[gb403]? = some (.cells #[.bool a2_0, .bool a2_1] 30 (0, 0))) := ⟨h0_⟩
              have n1_ : Aside0 (w15.heap[gb410]? = some (.cells #[.int .i64 0, .int .i64 0, .string (⟨#[]⟩ : ByteArray)] 23 (0, 0))) := ⟨h1_⟩
              have n2_ : Aside0 (w.heap.size ≤ gb410) := ⟨h2_⟩
              have n3_ : Aside0 (w.heap.size ≤ gb410) := ⟨h3_⟩
              have n4_ : Aside0 (gb403 ≠ gb410) := ⟨h4_⟩
              have n5_ : Aside0 (gb410 ≠ gb403) := ⟨h5_⟩
              have n6_ : Aside0 (Below w.heap.size w w15) := ⟨h6_⟩
              clear BK403
              clear HB
              clear h0_ h1_ h2_ h3_ h4_ h5_ h6_
              have BK403 := n0_
              have BK410 := n1_
              have GW410 := n2_
              have GE410 := n3_
              have NB403_410 := n4_
              have NB410_403 := n5_
              have HB := n6_
              clear n0_ n1_ n2_ n3_ n4_ n5_ n6_
              have hHeld : w15.cell? ⟨gb403, 0, none⟩ = some (.bool a2_0) ∧ w15.cell? ⟨gb403, 1, none⟩ = some (.bool a2_1) := hS_
              refine norm_ (a' := ?_) ?_ ?_
              rotate_left
              · simp only [putAll, Act.put, List.setIfInBounds_toArray, List.set_cons_zero, List.set_cons_succ]
                rfl
              refine two_ (i := 7) (j := 9) (Ni := some 36) (Nj := some 8) #[true, true, true, true, true, true, true, true, true, false, false, false] #[true, true, true, true, true, true, true, false, true, true, false, false] rfl rfl rfl rfl (two_of HT_.out (by kernel_rfl)) (by decide) (by decide) (fun K hK => ?_) (fun K hK => ?_)
              · skip
                refine goes_ Try.func13 (by kernel_rfl) rfl #[.int .i64 a1, .bool a2_1] (by rfl) rfl rfl (by (try simp only [List.map_toArray, List.map_cons, List.map_nil]); first | done | rfl | (simp only [List.length_drop, List.length_take]; rfl)) ?_
                with_reducible refine (marqueelaw02_value.calls a1 a2_1 t407 t408 t409 _ A5.out).mono ?_
                rintro e w16 ⟨rfl, hb⟩
                refine ⟨_, rfl, ?_⟩
                have n0_ := Aside0.mk (blk_below (g := gb403) (o := .cells #[.bool a2_0, .bool a2_1] 30 (0, 0)) (by (with_reducible repeat (first | refine blk_drewN ?_ _ | refine blk_drew ?_ | refine blk_alloc ?_ _)); exact BK403.out) hb)
                have n1_ := Aside0.mk (blk_below (g := gb410) (o := .cells #[.int .i64 0, .int .i64 0, .string (⟨#[]⟩ : ByteArray)] 23 (0, 0)) (by (with_reducible repeat (first | refine blk_drewN ?_ _ | refine blk_drew ?_ | refine blk_alloc ?_ _)); exact BK410.out) hb)
                have n2_ := Aside0.mk (below_step (by repeat (first | (with_reducible first | exact HB.out | apply below_alloc | apply pw_below_drewN | apply below_drew1 | refine below_set ?_ GE403.out | refine below_set ?_ GE410.out) | exact HB.out)) hb)
                clear BK403
                clear BK410
                clear HB
                have BK403 := n0_
                have BK410 := n1_
                have HB := n2_
                clear n0_ n1_ n2_
                (try clear hb)
                (try clear hb2)
                (try clear hk)
                (try clear hi)
                refine hK.out _ _ ⟨(blk_cell BK403.out 0).trans rfl, (blk_cell BK403.out 1).trans rfl⟩ (fun hHeld => ?_)
                clear hK K
                refine norm_ (a' := ?_) ?_ ?_
                rotate_left
                · show Act.put _ (some 36) _ = _
                  simp only [Act.put, List.setIfInBounds_toArray, List.set_cons_zero, List.set_cons_succ, i64_w, i32_w]
                  rfl
                exact norm_ (by first | (simp only [putAll, Act.put, List.setIfInBounds_toArray, List.set_cons_zero, List.set_cons_succ]; done) | (simp only [putAll, Act.put, List.setIfInBounds_toArray, List.set_cons_zero, List.set_cons_succ]; rfl)) (hJ3_7_8 (gb410) _ ⟨hHeld, (by (with_reducible repeat (first | refine blk_drewN ?_ _ | refine blk_drew ?_ | refine blk_alloc ?_ _)); exact BK403.out), (by (with_reducible repeat (first | refine blk_drewN ?_ _ | refine blk_drew ?_ | refine blk_alloc ?_ _)); exact BK410.out), GW410.out, GE410.out, NB403_410.out, NB410_403.out, (by repeat (first | (with_reducible first | exact HB.out | apply below_alloc | apply pw_below_drewN | apply below_drew1 | refine below_set ?_ GE403.out | refine below_set ?_ GE410.out) | exact HB.out))⟩)
              · skip
                refine box_step ?hg (N := 8) ?hd (cs := #[.int .i64 0, .int .i64 0, .string (⟨#[]⟩ : ByteArray)]) (t := 23) ?hr ?_; (case hd => rfl); (case hg => rfl); (case hr => first | (go_simp; done) | (go_simp; rfl))
                intro gb411 hg w16 hbox hb
                have n0_ := Aside0.mk (blk_below (g := gb403) (o := .cells #[.bool a2_0, .bool a2_1] 30 (0, 0)) (by (with_reducible repeat (first | refine blk_drewN ?_ _ | refine blk_drew ?_ | refine blk_alloc ?_ _)); exact BK403.out) hb)
                have n1_ := Aside0.mk (blk_below (g := gb410) (o := .cells #[.int .i64 0, .int .i64 0, .string (⟨#[]⟩ : ByteArray)] 23 (0, 0)) (by (with_reducible repeat (first | refine blk_drewN ?_ _ | refine blk_drew ?_ | refine blk_alloc ?_ _)); exact BK410.out) hb)
                have n2_ := Aside0.mk (below_step (by repeat (first | (with_reducible first | exact HB.out | apply below_alloc | apply pw_below_drewN | apply below_drew1 | refine below_set ?_ GE403.out | refine below_set ?_ GE410.out) | exact HB.out)) hb)
                have n3_ := Aside0.mk (hbox)
                have n4_ := Aside0.mk ((by rw [hg]; exact (below_size (by repeat (first | (with_reducible first | exact HB.out | apply below_alloc | apply pw_below_drewN | apply below_drew1 | refine below_set ?_ GE403.out | refine below_set ?_ GE410.out) | exact HB.out))) : w.heap.size ≤ gb411))
                have n5_ := Aside0.mk ((by rw [hg]; exact (below_size (by repeat (first | (with_reducible first | exact HB.out | apply below_alloc | apply pw_below_drewN | apply below_drew1 | refine below_set ?_ GE403.out | refine below_set ?_ GE410.out) | exact HB.out))) : w.heap.size ≤ gb411))
                have n6_ := Aside0.mk ((by rw [hg]; exact Nat.ne_of_lt (blk_lt (g := gb403) (o := .cells #[.bool a2_0, .bool a2_1] 30 (0, 0)) (by (with_reducible repeat (first | refine blk_drewN ?_ _ | refine blk_drew ?_ | refine blk_alloc ?_ _)); exact BK403.out)) : gb403 ≠ gb411))
                have n7_ := Aside0.mk ((by rw [hg]; exact Nat.ne_of_gt (blk_lt (g := gb403) (o := .cells #[.bool a2_0, .bool a2_1] 30 (0, 0)) (by (with_reducible repeat (first | refine blk_drewN ?_ _ | refine blk_drew ?_ | refine blk_alloc ?_ _)); exact BK403.out)) : gb411 ≠ gb403))
                have n8_ := Aside0.mk ((by rw [hg]; exact Nat.ne_of_lt (blk_lt (g := gb410) (o := .cells #[.int .i64 0, .int .i64 0, .string (⟨#[]⟩ : ByteArray)] 23 (0, 0)) (by (with_reducible repeat (first | refine blk_drewN ?_ _ | refine blk_drew ?_ | refine blk_alloc ?_ _)); exact BK410.out)) : gb410 ≠ gb411))
                have n9_ := Aside0.mk ((by rw [hg]; exact Nat.ne_of_gt (blk_lt (g := gb410) (o := .cells #[.int .i64 0, .int .i64 0, .string (⟨#[]⟩ : ByteArray)] 23 (0, 0)) (by (with_reducible repeat (first | refine blk_drewN ?_ _ | refine blk_drew ?_ | refine blk_alloc ?_ _)); exact BK410.out)) : gb411 ≠ gb410))
                clear BK403
                clear BK410
                clear HB
                have BK403 := n0_
                have BK410 := n1_
                have HB := n2_
                have BK411 := n3_
                have GW411 := n4_
                have GE411 := n5_
                have NB403_411 := n6_
                have NB411_403 := n7_
                have NB410_411 := n8_
                have NB411_410 := n9_
                clear n0_ n1_ n2_ n3_ n4_ n5_ n6_ n7_ n8_ n9_
                clear hb hbox hg
                refine hK.out _ _ ⟨(blk_cell BK403.out 0).trans rfl, (blk_cell BK403.out 1).trans rfl⟩ (fun hHeld => ?_)
                clear hK K
                refine norm_ (a' := ?_) ?_ ?_
                rotate_left
                · show Act.put _ (some 8) _ = _
                  simp only [Act.put, List.setIfInBounds_toArray, List.set_cons_zero, List.set_cons_succ, i64_w, i32_w]
                  rfl
                exact norm_ (by first | (simp only [putAll, Act.put, List.setIfInBounds_toArray, List.set_cons_zero, List.set_cons_succ]; done) | (simp only [putAll, Act.put, List.setIfInBounds_toArray, List.set_cons_zero, List.set_cons_succ]; rfl)) (hJ3_8_9 (gb410, gb411) _ ⟨hHeld, (by (with_reducible repeat (first | refine blk_drewN ?_ _ | refine blk_drew ?_ | refine blk_alloc ?_ _)); exact BK403.out), (by (with_reducible repeat (first | refine blk_drewN ?_ _ | refine blk_drew ?_ | refine blk_alloc ?_ _)); exact BK410.out), (by (with_reducible repeat (first | refine blk_drewN ?_ _ | refine blk_drew ?_ | refine blk_alloc ?_ _)); exact BK411.out), GW410.out, GE410.out, NB403_410.out, NB410_403.out, NB411_410.out, NB410_411.out, GW411.out, GE411.out, NB403_411.out, NB411_403.out, (by repeat (first | (with_reducible first | exact HB.out | apply below_alloc | apply pw_below_drewN | apply below_drew1 | refine below_set ?_ GE403.out | refine below_set ?_ GE410.out | refine below_set ?_ GE411.out) | exact HB.out))⟩)
          · skip
            rintro _ w15 ⟨hS_, h0_, h1_⟩
            have n0_ : Aside0 (w15.heap[gb403]? = some (.cells #[.bool a2_0, .bool a2_1] 30 (0, 0))) := ⟨h0_⟩
            have n1_ : Aside0 (Below w.heap.size w w15) := ⟨h1_⟩
            clear BK403
            clear HB
            clear h0_ h1_
            have BK403 := n0_
            have HB := n1_
            clear n0_ n1_
            have hHeld : w15.cell? ⟨gb403, 0, none⟩ = some (.bool a2_0) ∧ w15.cell? ⟨gb403, 1, none⟩ = some (.bool a2_1) := hS_
            refine norm_ (a' := ?_) ?_ ?_
            rotate_left
            · simp only [putAll, Act.put, List.setIfInBounds_toArray, List.set_cons_zero, List.set_cons_succ]
              rfl
            refine two_ (i := 8) (j := 9) (Ni := some 7) (Nj := some 8) #[true, true, true, true, true, true, true, true, true, false, false, false] #[true, true, true, true, true, true, true, true, false, true, false, false] rfl rfl rfl rfl (two_of HT_.out (by kernel_rfl)) (by decide) (by decide) (fun K hK => ?_) (fun K hK => ?_)
            · skip
              refine box_step ?hg (N := 7) ?hd (cs := #[.int .i64 0, .int .i64 0, .string (⟨#[]⟩ : ByteArray)]) (t := 23) ?hr ?_; (case hd => rfl); (case hg => rfl); (case hr => first | (go_simp; done) | (go_simp; rfl))
              intro gb410 hg w16 hbox hb
              have n0_ := Aside0.mk (blk_below (g := gb403) (o := .cells #[.bool a2_0, .bool a2_1] 30 (0, 0)) (by (with_reducible repeat (first | refine blk_drewN ?_ _ | refine blk_drew ?_ | refine blk_alloc ?_ _)); exact BK403.out) hb)
              have n1_ := Aside0.mk (below_step (by repeat (first | (with_reducible first | exact HB.out | apply below_alloc | apply pw_below_drewN | apply below_drew1 | refine below_set ?_ GE403.out) | exact HB.out)) hb)
              have n2_ := Aside0.mk (hbox)
              have n3_ := Aside0.mk ((by rw [hg]; exact (below_size (by repeat (first | (with_reducible first | exact HB.out | apply below_alloc | apply pw_below_drewN | apply below_drew1 | refine below_set ?_ GE403.out) | exact HB.out))) : w.heap.size ≤ gb410))
              have n4_ := Aside0.mk ((by rw [hg]; exact (below_size (by repeat (first | (with_reducible first | exact HB.out | apply below_alloc | apply pw_below_drewN | apply below_drew1 | refine below_set ?_ GE403.out) | exact HB.out))) : w.heap.size ≤ gb410))
              have n5_ := Aside0.mk ((by rw [hg]; exact Nat.ne_of_lt (blk_lt (g := gb403) (o := .cells #[.bool a2_0, .bool a2_1] 30 (0, 0)) (by (with_reducible repeat (first | refine blk_drewN ?_ _ | refine blk_drew ?_ | refine blk_alloc ?_ _)); exact BK403.out)) : gb403 ≠ gb410))
              have n6_ := Aside0.mk ((by rw [hg]; exact Nat.ne_of_gt (blk_lt (g := gb403) (o := .cells #[.bool a2_0, .bool a2_1] 30 (0, 0)) (by (with_reducible repeat (first | refine blk_drewN ?_ _ | refine blk_drew ?_ | refine blk_alloc ?_ _)); exact BK403.out)) : gb410 ≠ gb403))
              clear BK403
              clear HB
              have BK403 := n0_
              have HB := n1_
              have BK410 := n2_
              have GW410 := n3_
              have GE410 := n4_
              have NB403_410 := n5_
              have NB410_403 := n6_
              clear n0_ n1_ n2_ n3_ n4_ n5_ n6_
              clear hb hbox hg
              refine hK.out _ _ ⟨(blk_cell BK403.out 0).trans rfl, (blk_cell BK403.out 1).trans rfl⟩ (fun hHeld => ?_)
              clear hK K
              refine norm_ (a' := ?_) ?_ ?_
              rotate_left
              · show Act.put _ (some 7) _ = _
                simp only [Act.put, List.setIfInBounds_toArray, List.set_cons_zero, List.set_cons_succ, i64_w, i32_w]
                rfl
              exact norm_ (by first | (simp only [putAll, Act.put, List.setIfInBounds_toArray, List.set_cons_zero, List.set_cons_succ]; done) | (simp only [putAll, Act.put, List.setIfInBounds_toArray, List.set_cons_zero, List.set_cons_succ]; rfl)) (hJ3_7_8 (gb410) _ ⟨hHeld, (by (with_reducible repeat (first | refine blk_drewN ?_ _ | refine blk_drew ?_ | refine blk_alloc ?_ _)); exact BK403.out), (by (with_reducible repeat (first | refine blk_drewN ?_ _ | refine blk_drew ?_ | refine blk_alloc ?_ _)); exact BK410.out), GW410.out, GE410.out, NB403_410.out, NB410_403.out, (by repeat (first | (with_reducible first | exact HB.out | apply below_alloc | apply pw_below_drewN | apply below_drew1 | refine below_set ?_ GE403.out | refine below_set ?_ GE410.out) | exact HB.out))⟩)
            · skip
              refine box_step ?hg (N := 8) ?hd (cs := #[.int .i64 0, .int .i64 0, .string (⟨#[]⟩ : ByteArray)]) (t := 23) ?hr ?_; (case hd => rfl); (case hg => rfl); (case hr => first | (go_simp; done) | (go_simp; rfl))
              intro gb411 hg w16 hbox hb
              have n0_ := Aside0.mk (blk_below (g := gb403) (o := .cells #[.bool a2_0, .bool a2_1] 30 (0, 0)) (by (with_reducible repeat (first | refine blk_drewN ?_ _ | refine blk_drew ?_ | refine blk_alloc ?_ _)); exact BK403.out) hb)
              have n1_ := Aside0.mk (below_step (by repeat (first | (with_reducible first | exact HB.out | apply below_alloc | apply pw_below_drewN | apply below_drew1 | refine below_set ?_ GE403.out) | exact HB.out)) hb)
              have n2_ := Aside0.mk (hbox)
              have n3_ := Aside0.mk ((by rw [hg]; exact (below_size (by repeat (first | (with_reducible first | exact HB.out | apply below_alloc | apply pw_below_drewN | apply below_drew1 | refine below_set ?_ GE403.out) | exact HB.out))) : w.heap.size ≤ gb411))
              have n4_ := Aside0.mk ((by rw [hg]; exact (below_size (by repeat (first | (with_reducible first | exact HB.out | apply below_alloc | apply pw_below_drewN | apply below_drew1 | refine below_set ?_ GE403.out) | exact HB.out))) : w.heap.size ≤ gb411))
              have n5_ := Aside0.mk ((by rw [hg]; exact Nat.ne_of_lt (blk_lt (g := gb403) (o := .cells #[.bool a2_0, .bool a2_1] 30 (0, 0)) (by (with_reducible repeat (first | refine blk_drewN ?_ _ | refine blk_drew ?_ | refine blk_alloc ?_ _)); exact BK403.out)) : gb403 ≠ gb411))
              have n6_ := Aside0.mk ((by rw [hg]; exact Nat.ne_of_gt (blk_lt (g := gb403) (o := .cells #[.bool a2_0, .bool a2_1] 30 (0, 0)) (by (with_reducible repeat (first | refine blk_drewN ?_ _ | refine blk_drew ?_ | refine blk_alloc ?_ _)); exact BK403.out)) : gb411 ≠ gb403))
              clear BK403
              clear HB
              have BK403 := n0_
              have HB := n1_
              have BK411 := n2_
              have GW411 := n3_
              have GE411 := n4_
              have NB403_411 := n5_
              have NB411_403 := n6_
              clear n0_ n1_ n2_ n3_ n4_ n5_ n6_
              clear hb hbox hg
              refine hK.out _ _ ⟨(blk_cell BK403.out 0).trans rfl, (blk_cell BK403.out 1).trans rfl⟩ (fun hHeld => ?_)
              clear hK K
              refine norm_ (a' := ?_) ?_ ?_
              rotate_left
              · show Act.put _ (some 8) _ = _
                simp only [Act.put, List.setIfInBounds_toArray, List.set_cons_zero, List.set_cons_succ, i64_w, i32_w]
                rfl
              exact norm_ (by first | (simp only [putAll, Act.put, List.setIfInBounds_toArray, List.set_cons_zero, List.set_cons_succ]; done) | (simp only [putAll, Act.put, List.setIfInBounds_toArray, List.set_cons_zero, List.set_cons_succ]; rfl)) (hJ3_7_9 (gb411) _ ⟨hHeld, (by (with_reducible repeat (first | refine blk_drewN ?_ _ | refine blk_drew ?_ | refine blk_alloc ?_ _)); exact BK403.out), (by (with_reducible repeat (first | refine blk_drewN ?_ _ | refine blk_drew ?_ | refine blk_alloc ?_ _)); exact BK411.out), GW411.out, GE411.out, NB403_411.out, NB411_403.out, (by repeat (first | (with_reducible first | exact HB.out | apply below_alloc | apply pw_below_drewN | apply below_drew1 | refine below_set ?_ GE403.out | refine below_set ?_ GE411.out) | exact HB.out))⟩)
        · skip
          rintro ⟨gb410, gb411⟩ w16 ⟨hS_, h0_, h1_, h2_, h3_, h4_, h5_, h6_, h7_, h8_, h9_, h10_, h11_, h12_, h13_⟩
          have n0_ : Aside0 (w16.heap[gb403]? = some (.cells #[.bool a2_0, .bool a2_1] 30 (0, 0))) := ⟨h0_⟩
          have n1_ : Aside0 (w16.heap[gb410]? = some (.cells #[.int .i64 0, .int .i64 0, .string (⟨#[]⟩ : ByteArray)] 23 (0, 0))) := ⟨h1_⟩
          have n2_ : Aside0 (w16.heap[gb411]? = some (.cells #[.int .i64 0, .int .i64 0, .string (⟨#[]⟩ : ByteArray)] 23 (0, 0))) := ⟨h2_⟩
          have n3_ : Aside0 (w.heap.size ≤ gb410) := ⟨h3_⟩
          have n4_ : Aside0 (w.heap.size ≤ gb410) := ⟨h4_⟩
          have n5_ : Aside0 (gb403 ≠ gb410) := ⟨h5_⟩
          have n6_ : Aside0 (gb410 ≠ gb403) := ⟨h6_⟩
          have n7_ : Aside0 (gb411 ≠ gb410) := ⟨h7_⟩
          have n8_ : Aside0 (gb410 ≠ gb411) := ⟨h8_⟩
          have n9_ : Aside0 (w.heap.size ≤ gb411) := ⟨h9_⟩
          have n10_ : Aside0 (w.heap.size ≤ gb411) := ⟨h10_⟩
          have n11_ : Aside0 (gb403 ≠ gb411) := ⟨h11_⟩
          have n12_ : Aside0 (gb411 ≠ gb403) := ⟨h12_⟩
          have n13_ : Aside0 (Below w.heap.size w w16) := ⟨h13_⟩
          clear BK403
          clear HB
          clear h0_ h1_ h2_ h3_ h4_ h5_ h6_ h7_ h8_ h9_ h10_ h11_ h12_ h13_
          have BK403 := n0_
          have BK410 := n1_
          have BK411 := n2_
          have GW410 := n3_
          have GE410 := n4_
          have NB403_410 := n5_
          have NB410_403 := n6_
          have NB411_410 := n7_
          have NB410_411 := n8_
          have GW411 := n9_
          have GE411 := n10_
          have NB403_411 := n11_
          have NB411_403 := n12_
          have HB := n13_
          clear n0_ n1_ n2_ n3_ n4_ n5_ n6_ n7_ n8_ n9_ n10_ n11_ n12_ n13_
          have hHeld : w16.cell? ⟨gb403, 0, none⟩ = some (.bool a2_0) ∧ w16.cell? ⟨gb403, 1, none⟩ = some (.bool a2_1) := hS_
          refine norm_ (a' := ?_) ?_ ?_
          rotate_left
          · simp only [putAll, Act.put, List.setIfInBounds_toArray, List.set_cons_zero, List.set_cons_succ]
            rfl
          refine one_ (i := 7) (N := some 36) #[true, true, true, true, true, true, true, true, true, true, false, false] rfl rfl (one_of HT_.out (by kernel_rfl)) (by decide) (fun K hK => ?_)
          refine goes_ Try.func13 (by kernel_rfl) rfl #[.int .i64 a1, .bool a2_1] (by rfl) rfl rfl (by (try simp only [List.map_toArray, List.map_cons, List.map_nil]); first | done | rfl | (simp only [List.length_drop, List.length_take]; rfl)) ?_
          with_reducible refine (marqueelaw02_value.calls a1 a2_1 t407 t408 t409 _ A5.out).mono ?_
          rintro e w17 ⟨rfl, hb⟩
          refine ⟨_, rfl, ?_⟩
          have n0_ := Aside0.mk (blk_below (g := gb403) (o := .cells #[.bool a2_0, .bool a2_1] 30 (0, 0)) (by (with_reducible repeat (first | refine blk_drewN ?_ _ | refine blk_drew ?_ | refine blk_alloc ?_ _)); exact BK403.out) hb)
          have n1_ := Aside0.mk (blk_below (g := gb410) (o := .cells #[.int .i64 0, .int .i64 0, .string (⟨#[]⟩ : ByteArray)] 23 (0, 0)) (by (with_reducible repeat (first | refine blk_drewN ?_ _ | refine blk_drew ?_ | refine blk_alloc ?_ _)); exact BK410.out) hb)
          have n2_ := Aside0.mk (blk_below (g := gb411) (o := .cells #[.int .i64 0, .int .i64 0, .string (⟨#[]⟩ : ByteArray)] 23 (0, 0)) (by (with_reducible repeat (first | refine blk_drewN ?_ _ | refine blk_drew ?_ | refine blk_alloc ?_ _)); exact BK411.out) hb)
          have n3_ := Aside0.mk (below_step (by repeat (first | (with_reducible first | exact HB.out | apply below_alloc | apply pw_below_drewN | apply below_drew1 | refine below_set ?_ GE403.out | refine below_set ?_ GE410.out | refine below_set ?_ GE411.out) | exact HB.out)) hb)
          clear BK403
          clear BK410
          clear BK411
          clear HB
          have BK403 := n0_
          have BK410 := n1_
          have BK411 := n2_
          have HB := n3_
          clear n0_ n1_ n2_ n3_
          (try clear hb)
          (try clear hb2)
          (try clear hk)
          (try clear hi)
          refine hK.out _ _ ⟨(blk_cell BK403.out 0).trans rfl, (blk_cell BK403.out 1).trans rfl⟩ (fun hHeld => ?_)
          clear hK K
          refine norm_ (a' := ?_) ?_ ?_
          rotate_left
          · show Act.put _ (some 36) _ = _
            simp only [Act.put, List.setIfInBounds_toArray, List.set_cons_zero, List.set_cons_succ, i64_w, i32_w]
            rfl
          exact norm_ (by first | (simp only [putAll, Act.put, List.setIfInBounds_toArray, List.set_cons_zero, List.set_cons_succ]; done) | (simp only [putAll, Act.put, List.setIfInBounds_toArray, List.set_cons_zero, List.set_cons_succ]; rfl)) (hJ3_7_8_9 (gb410, gb411) _ ⟨hHeld, (by (with_reducible repeat (first | refine blk_drewN ?_ _ | refine blk_drew ?_ | refine blk_alloc ?_ _)); exact BK403.out), (by (with_reducible repeat (first | refine blk_drewN ?_ _ | refine blk_drew ?_ | refine blk_alloc ?_ _)); exact BK410.out), (by (with_reducible repeat (first | refine blk_drewN ?_ _ | refine blk_drew ?_ | refine blk_alloc ?_ _)); exact BK411.out), GW410.out, GE410.out, NB403_410.out, NB410_403.out, NB411_410.out, NB410_411.out, GW411.out, GE411.out, NB403_411.out, NB411_403.out, (by repeat (first | (with_reducible first | exact HB.out | apply below_alloc | apply pw_below_drewN | apply below_drew1 | refine below_set ?_ GE403.out | refine below_set ?_ GE410.out | refine below_set ?_ GE411.out) | exact HB.out))⟩)
      · skip
        rintro gb411 w16 ⟨hS_, h0_, h1_, h2_, h3_, h4_, h5_, h6_⟩
        have n0_ : Aside0 (w16.heap[gb403]? = some (.cells #[.bool a2_0, .bool a2_1] 30 (0, 0))) := ⟨h0_⟩
        have n1_ : Aside0 (w16.heap[gb411]? = some (.cells #[.int .i64 0, .int .i64 0, .string (⟨#[]⟩ : ByteArray)] 23 (0, 0))) := ⟨h1_⟩
        have n2_ : Aside0 (w.heap.size ≤ gb411) := ⟨h2_⟩
        have n3_ : Aside0 (w.heap.size ≤ gb411) := ⟨h3_⟩
        have n4_ : Aside0 (gb403 ≠ gb411) := ⟨h4_⟩
        have n5_ : Aside0 (gb411 ≠ gb403) := ⟨h5_⟩
        have n6_ : Aside0 (Below w.heap.size w w16) := ⟨h6_⟩
        clear BK403
        clear HB
        clear h0_ h1_ h2_ h3_ h4_ h5_ h6_
        have BK403 := n0_
        have BK411 := n1_
        have GW411 := n2_
        have GE411 := n3_
        have NB403_411 := n4_
        have NB411_403 := n5_
        have HB := n6_
        clear n0_ n1_ n2_ n3_ n4_ n5_ n6_
        have hHeld : w16.cell? ⟨gb403, 0, none⟩ = some (.bool a2_0) ∧ w16.cell? ⟨gb403, 1, none⟩ = some (.bool a2_1) := hS_
        refine norm_ (a' := ?_) ?_ ?_
        rotate_left
        · simp only [putAll, Act.put, List.setIfInBounds_toArray, List.set_cons_zero, List.set_cons_succ]
          rfl
        refine one_ (i := 8) (N := some 7) #[true, true, true, true, true, true, true, true, true, true, false, false] rfl rfl (one_of HT_.out (by kernel_rfl)) (by decide) (fun K hK => ?_)
        refine box_step ?hg (N := 7) ?hd (cs := #[.int .i64 0, .int .i64 0, .string (⟨#[]⟩ : ByteArray)]) (t := 23) ?hr ?_; (case hd => rfl); (case hg => rfl); (case hr => first | (go_simp; done) | (go_simp; rfl))
        intro gb410 hg w17 hbox hb
        have n0_ := Aside0.mk (blk_below (g := gb403) (o := .cells #[.bool a2_0, .bool a2_1] 30 (0, 0)) (by (with_reducible repeat (first | refine blk_drewN ?_ _ | refine blk_drew ?_ | refine blk_alloc ?_ _)); exact BK403.out) hb)
        have n1_ := Aside0.mk (blk_below (g := gb411) (o := .cells #[.int .i64 0, .int .i64 0, .string (⟨#[]⟩ : ByteArray)] 23 (0, 0)) (by (with_reducible repeat (first | refine blk_drewN ?_ _ | refine blk_drew ?_ | refine blk_alloc ?_ _)); exact BK411.out) hb)
        have n2_ := Aside0.mk (below_step (by repeat (first | (with_reducible first | exact HB.out | apply below_alloc | apply pw_below_drewN | apply below_drew1 | refine below_set ?_ GE403.out | refine below_set ?_ GE411.out) | exact HB.out)) hb)
        have n3_ := Aside0.mk (hbox)
        have n4_ := Aside0.mk ((by rw [hg]; exact (below_size (by repeat (first | (with_reducible first | exact HB.out | apply below_alloc | apply pw_below_drewN | apply below_drew1 | refine below_set ?_ GE403.out | refine below_set ?_ GE411.out) | exact HB.out))) : w.heap.size ≤ gb410))
        have n5_ := Aside0.mk ((by rw [hg]; exact (below_size (by repeat (first | (with_reducible first | exact HB.out | apply below_alloc | apply pw_below_drewN | apply below_drew1 | refine below_set ?_ GE403.out | refine below_set ?_ GE411.out) | exact HB.out))) : w.heap.size ≤ gb410))
        have n6_ := Aside0.mk ((by rw [hg]; exact Nat.ne_of_lt (blk_lt (g := gb403) (o := .cells #[.bool a2_0, .bool a2_1] 30 (0, 0)) (by (with_reducible repeat (first | refine blk_drewN ?_ _ | refine blk_drew ?_ | refine blk_alloc ?_ _)); exact BK403.out)) : gb403 ≠ gb410))
        have n7_ := Aside0.mk ((by rw [hg]; exact Nat.ne_of_gt (blk_lt (g := gb403) (o := .cells #[.bool a2_0, .bool a2_1] 30 (0, 0)) (by (with_reducible repeat (first | refine blk_drewN ?_ _ | refine blk_drew ?_ | refine blk_alloc ?_ _)); exact BK403.out)) : gb410 ≠ gb403))
        have n8_ := Aside0.mk ((by rw [hg]; exact Nat.ne_of_lt (blk_lt (g := gb411) (o := .cells #[.int .i64 0, .int .i64 0, .string (⟨#[]⟩ : ByteArray)] 23 (0, 0)) (by (with_reducible repeat (first | refine blk_drewN ?_ _ | refine blk_drew ?_ | refine blk_alloc ?_ _)); exact BK411.out)) : gb411 ≠ gb410))
        have n9_ := Aside0.mk ((by rw [hg]; exact Nat.ne_of_gt (blk_lt (g := gb411) (o := .cells #[.int .i64 0, .int .i64 0, .string (⟨#[]⟩ : ByteArray)] 23 (0, 0)) (by (with_reducible repeat (first | refine blk_drewN ?_ _ | refine blk_drew ?_ | refine blk_alloc ?_ _)); exact BK411.out)) : gb410 ≠ gb411))
        clear BK403
        clear BK411
        clear HB
        have BK403 := n0_
        have BK411 := n1_
        have HB := n2_
        have BK410 := n3_
        have GW410 := n4_
        have GE410 := n5_
        have NB403_410 := n6_
        have NB410_403 := n7_
        have NB411_410 := n8_
        have NB410_411 := n9_
        clear n0_ n1_ n2_ n3_ n4_ n5_ n6_ n7_ n8_ n9_
        clear hb hbox hg
        refine hK.out _ _ ⟨(blk_cell BK403.out 0).trans rfl, (blk_cell BK403.out 1).trans rfl⟩ (fun hHeld => ?_)
        clear hK K
        refine norm_ (a' := ?_) ?_ ?_
        rotate_left
        · show Act.put _ (some 7) _ = _
          simp only [Act.put, List.setIfInBounds_toArray, List.set_cons_zero, List.set_cons_succ, i64_w, i32_w]
          rfl
        exact norm_ (by first | (simp only [putAll, Act.put, List.setIfInBounds_toArray, List.set_cons_zero, List.set_cons_succ]; done) | (simp only [putAll, Act.put, List.setIfInBounds_toArray, List.set_cons_zero, List.set_cons_succ]; rfl)) (hJ3_7_8_9 (gb410, gb411) _ ⟨hHeld, (by (with_reducible repeat (first | refine blk_drewN ?_ _ | refine blk_drew ?_ | refine blk_alloc ?_ _)); exact BK403.out), (by (with_reducible repeat (first | refine blk_drewN ?_ _ | refine blk_drew ?_ | refine blk_alloc ?_ _)); exact BK410.out), (by (with_reducible repeat (first | refine blk_drewN ?_ _ | refine blk_drew ?_ | refine blk_alloc ?_ _)); exact BK411.out), GW410.out, GE410.out, NB403_410.out, NB410_403.out, NB411_410.out, NB410_411.out, GW411.out, GE411.out, NB403_411.out, NB411_403.out, (by repeat (first | (with_reducible first | exact HB.out | apply below_alloc | apply pw_below_drewN | apply below_drew1 | refine below_set ?_ GE403.out | refine below_set ?_ GE411.out | refine below_set ?_ GE410.out) | exact HB.out))⟩)
    · skip
      rintro gb410 w16 ⟨hS_, h0_, h1_, h2_, h3_, h4_, h5_, h6_⟩
      have n0_ : Aside0 (w16.heap[gb403]? = some (.cells #[.bool a2_0, .bool a2_1] 30 (0, 0))) := ⟨h0_⟩
      have n1_ : Aside0 (w16.heap[gb410]? = some (.cells #[.int .i64 0, .int .i64 0, .string (⟨#[]⟩ : ByteArray)] 23 (0, 0))) := ⟨h1_⟩
      have n2_ : Aside0 (w.heap.size ≤ gb410) := ⟨h2_⟩
      have n3_ : Aside0 (w.heap.size ≤ gb410) := ⟨h3_⟩
      have n4_ : Aside0 (gb403 ≠ gb410) := ⟨h4_⟩
      have n5_ : Aside0 (gb410 ≠ gb403) := ⟨h5_⟩
      have n6_ : Aside0 (Below w.heap.size w w16) := ⟨h6_⟩
      clear BK403
      clear HB
      clear h0_ h1_ h2_ h3_ h4_ h5_ h6_
      have BK403 := n0_
      have BK410 := n1_
      have GW410 := n2_
      have GE410 := n3_
      have NB403_410 := n4_
      have NB410_403 := n5_
      have HB := n6_
      clear n0_ n1_ n2_ n3_ n4_ n5_ n6_
      have hHeld : w16.cell? ⟨gb403, 0, none⟩ = some (.bool a2_0) ∧ w16.cell? ⟨gb403, 1, none⟩ = some (.bool a2_1) := hS_
      refine norm_ (a' := ?_) ?_ ?_
      rotate_left
      · simp only [putAll, Act.put, List.setIfInBounds_toArray, List.set_cons_zero, List.set_cons_succ]
        rfl
      refine one_ (i := 9) (N := some 8) #[true, true, true, true, true, true, true, true, true, true, false, false] rfl rfl (one_of HT_.out (by kernel_rfl)) (by decide) (fun K hK => ?_)
      refine box_step ?hg (N := 8) ?hd (cs := #[.int .i64 0, .int .i64 0, .string (⟨#[]⟩ : ByteArray)]) (t := 23) ?hr ?_; (case hd => rfl); (case hg => rfl); (case hr => first | (go_simp; done) | (go_simp; rfl))
      intro gb411 hg w17 hbox hb
      have n0_ := Aside0.mk (blk_below (g := gb403) (o := .cells #[.bool a2_0, .bool a2_1] 30 (0, 0)) (by (with_reducible repeat (first | refine blk_drewN ?_ _ | refine blk_drew ?_ | refine blk_alloc ?_ _)); exact BK403.out) hb)
      have n1_ := Aside0.mk (blk_below (g := gb410) (o := .cells #[.int .i64 0, .int .i64 0, .string (⟨#[]⟩ : ByteArray)] 23 (0, 0)) (by (with_reducible repeat (first | refine blk_drewN ?_ _ | refine blk_drew ?_ | refine blk_alloc ?_ _)); exact BK410.out) hb)
      have n2_ := Aside0.mk (below_step (by repeat (first | (with_reducible first | exact HB.out | apply below_alloc | apply pw_below_drewN | apply below_drew1 | refine below_set ?_ GE403.out | refine below_set ?_ GE410.out) | exact HB.out)) hb)
      have n3_ := Aside0.mk (hbox)
      have n4_ := Aside0.mk ((by rw [hg]; exact (below_size (by repeat (first | (with_reducible first | exact HB.out | apply below_alloc | apply pw_below_drewN | apply below_drew1 | refine below_set ?_ GE403.out | refine below_set ?_ GE410.out) | exact HB.out))) : w.heap.size ≤ gb411))
      have n5_ := Aside0.mk ((by rw [hg]; exact (below_size (by repeat (first | (with_reducible first | exact HB.out | apply below_alloc | apply pw_below_drewN | apply below_drew1 | refine below_set ?_ GE403.out | refine below_set ?_ GE410.out) | exact HB.out))) : w.heap.size ≤ gb411))
      have n6_ := Aside0.mk ((by rw [hg]; exact Nat.ne_of_lt (blk_lt (g := gb403) (o := .cells #[.bool a2_0, .bool a2_1] 30 (0, 0)) (by (with_reducible repeat (first | refine blk_drewN ?_ _ | refine blk_drew ?_ | refine blk_alloc ?_ _)); exact BK403.out)) : gb403 ≠ gb411))
      have n7_ := Aside0.mk ((by rw [hg]; exact Nat.ne_of_gt (blk_lt (g := gb403) (o := .cells #[.bool a2_0, .bool a2_1] 30 (0, 0)) (by (with_reducible repeat (first | refine blk_drewN ?_ _ | refine blk_drew ?_ | refine blk_alloc ?_ _)); exact BK403.out)) : gb411 ≠ gb403))
      have n8_ := Aside0.mk ((by rw [hg]; exact Nat.ne_of_lt (blk_lt (g := gb410) (o := .cells #[.int .i64 0, .int .i64 0, .string (⟨#[]⟩ : ByteArray)] 23 (0, 0)) (by (with_reducible repeat (first | refine blk_drewN ?_ _ | refine blk_drew ?_ | refine blk_alloc ?_ _)); exact BK410.out)) : gb410 ≠ gb411))
      have n9_ := Aside0.mk ((by rw [hg]; exact Nat.ne_of_gt (blk_lt (g := gb410) (o := .cells #[.int .i64 0, .int .i64 0, .string (⟨#[]⟩ : ByteArray)] 23 (0, 0)) (by (with_reducible repeat (first | refine blk_drewN ?_ _ | refine blk_drew ?_ | refine blk_alloc ?_ _)); exact BK410.out)) : gb411 ≠ gb410))
      clear BK403
      clear BK410
      clear HB
      have BK403 := n0_
      have BK410 := n1_
      have HB := n2_
      have BK411 := n3_
      have GW411 := n4_
      have GE411 := n5_
      have NB403_411 := n6_
      have NB411_403 := n7_
      have NB410_411 := n8_
      have NB411_410 := n9_
      clear n0_ n1_ n2_ n3_ n4_ n5_ n6_ n7_ n8_ n9_
      clear hb hbox hg
      refine hK.out _ _ ⟨(blk_cell BK403.out 0).trans rfl, (blk_cell BK403.out 1).trans rfl⟩ (fun hHeld => ?_)
      clear hK K
      refine norm_ (a' := ?_) ?_ ?_
      rotate_left
      · show Act.put _ (some 8) _ = _
        simp only [Act.put, List.setIfInBounds_toArray, List.set_cons_zero, List.set_cons_succ, i64_w, i32_w]
        rfl
      exact norm_ (by first | (simp only [putAll, Act.put, List.setIfInBounds_toArray, List.set_cons_zero, List.set_cons_succ]; done) | (simp only [putAll, Act.put, List.setIfInBounds_toArray, List.set_cons_zero, List.set_cons_succ]; rfl)) (hJ3_7_8_9 (gb410, gb411) _ ⟨hHeld, (by (with_reducible repeat (first | refine blk_drewN ?_ _ | refine blk_drew ?_ | refine blk_alloc ?_ _)); exact BK403.out), (by (with_reducible repeat (first | refine blk_drewN ?_ _ | refine blk_drew ?_ | refine blk_alloc ?_ _)); exact BK410.out), (by (with_reducible repeat (first | refine blk_drewN ?_ _ | refine blk_drew ?_ | refine blk_alloc ?_ _)); exact BK411.out), GW410.out, GE410.out, NB403_410.out, NB410_403.out, NB411_410.out, NB410_411.out, GW411.out, GE411.out, NB403_411.out, NB411_403.out, (by repeat (first | (with_reducible first | exact HB.out | apply below_alloc | apply pw_below_drewN | apply below_drew1 | refine below_set ?_ GE403.out | refine below_set ?_ GE410.out | refine below_set ?_ GE411.out) | exact HB.out))⟩)
  rintro ⟨gb410, gb411⟩ w17 ⟨hS_, h0_, h1_, h2_, h3_, h4_, h5_, h6_, h7_, h8_, h9_, h10_, h11_, h12_, h13_⟩
  have n0_ : Aside0 (w17.heap[gb403]? = some (.cells #[.bool a2_0, .bool a2_1] 30 (0, 0))) := ⟨h0_⟩
  have n1_ : Aside0 (w17.heap[gb410]? = some (.cells #[.int .i64 0, .int .i64 0, .string (⟨#[]⟩ : ByteArray)] 23 (0, 0))) := ⟨h1_⟩
  have n2_ : Aside0 (w17.heap[gb411]? = some (.cells #[.int .i64 0, .int .i64 0, .string (⟨#[]⟩ : ByteArray)] 23 (0, 0))) := ⟨h2_⟩
  have n3_ : Aside0 (w.heap.size ≤ gb410) := ⟨h3_⟩
  have n4_ : Aside0 (w.heap.size ≤ gb410) := ⟨h4_⟩
  have n5_ : Aside0 (gb403 ≠ gb410) := ⟨h5_⟩
  have n6_ : Aside0 (gb410 ≠ gb403) := ⟨h6_⟩
  have n7_ : Aside0 (gb411 ≠ gb410) := ⟨h7_⟩
  have n8_ : Aside0 (gb410 ≠ gb411) := ⟨h8_⟩
  have n9_ : Aside0 (w.heap.size ≤ gb411) := ⟨h9_⟩
  have n10_ : Aside0 (w.heap.size ≤ gb411) := ⟨h10_⟩
  have n11_ : Aside0 (gb403 ≠ gb411) := ⟨h11_⟩
  have n12_ : Aside0 (gb411 ≠ gb403) := ⟨h12_⟩
  have n13_ : Aside0 (Below w.heap.size w w17) := ⟨h13_⟩
  clear BK403
  clear HB
  clear h0_ h1_ h2_ h3_ h4_ h5_ h6_ h7_ h8_ h9_ h10_ h11_ h12_ h13_
  have BK403 := n0_
  have BK410 := n1_
  have BK411 := n2_
  have GW410 := n3_
  have GE410 := n4_
  have NB403_410 := n5_
  have NB410_403 := n6_
  have NB411_410 := n7_
  have NB410_411 := n8_
  have GW411 := n9_
  have GE411 := n10_
  have NB403_411 := n11_
  have NB411_403 := n12_
  have HB := n13_
  clear n0_ n1_ n2_ n3_ n4_ n5_ n6_ n7_ n8_ n9_ n10_ n11_ n12_ n13_
  have hHeld : w17.cell? ⟨gb403, 0, none⟩ = some (.bool a2_0) ∧ w17.cell? ⟨gb403, 1, none⟩ = some (.bool a2_1) := hS_
  refine norm_ (a' := ?_) ?_ ?_
  rotate_left
  · simp only [putAll, Act.put, List.setIfInBounds_toArray, List.set_cons_zero, List.set_cons_succ]
    rfl
  refine one_ (i := 10) (N := none) #[true, true, true, true, true, true, true, true, true, true, true, false] rfl rfl (one_of HT_.out (by kernel_rfl)) (by decide) (fun K hK => ?_)
  have hs18 : w17.cell? ⟨gb410, 0, none⟩ = some (.int .i64 0) := (blk_cell BK410.out 0).trans rfl
  have hfs18 := blk_frozen BK410.out 0
  have hns18_0 := NB403_410.out
  have hns18_2 := NB411_410.out
  have hms18_0 := NB410_403.out
  have hms18_2 := NB410_411.out
  have hs19 : w17.cell? ⟨gb410, 1, none⟩ = some (.int .i64 0) := (blk_cell BK410.out 1).trans rfl
  have hfs19 := blk_frozen BK410.out 1
  have hns19_0 := NB403_410.out
  have hns19_2 := NB411_410.out
  have hms19_0 := NB410_403.out
  have hms19_2 := NB410_411.out
  have hs20 : w17.cell? ⟨gb410, 2, none⟩ = some (.string (⟨#[]⟩ : ByteArray)) := (blk_cell BK410.out 2).trans rfl
  have hfs20 := blk_frozen BK410.out 2
  have hns20_0 := NB403_410.out
  have hns20_2 := NB411_410.out
  have hms20_0 := NB410_403.out
  have hms20_2 := NB410_411.out
  refine skip_ (w1 := ?_) (by rfl) rfl ?_ ?_
  rotate_left
  · go_simp
    rfl
  refine hK.out _ _ ⟨((cell_far (p := ⟨gb410, _, none⟩) NB403_410.out _).trans (((cell_far (p := ⟨gb410, _, none⟩) NB403_410.out _).trans (((cell_far (p := ⟨gb410, _, none⟩) NB403_410.out _).trans (hHeld.1)))))), ((cell_far (p := ⟨gb410, _, none⟩) NB403_410.out _).trans (((cell_far (p := ⟨gb410, _, none⟩) NB403_410.out _).trans (((cell_far (p := ⟨gb410, _, none⟩) NB403_410.out _).trans (hHeld.2))))))⟩ (fun hHeld => ?_)
  clear hK K
  refine one_ (i := 11) (N := none) #[true, true, true, true, true, true, true, true, true, true, true, true] rfl rfl (one_of HT_.out (by kernel_rfl)) (by decide) (fun K hK => ?_)
  have hs21 : w17.cell? ⟨gb411, 0, none⟩ = some (.int .i64 0) := (blk_cell BK411.out 0).trans rfl
  have hfs21 := blk_frozen BK411.out 0
  have hns21_0 := NB403_411.out
  have hns21_1 := NB410_411.out
  have hms21_0 := NB411_403.out
  have hms21_1 := NB411_410.out
  have hs22 : w17.cell? ⟨gb411, 1, none⟩ = some (.int .i64 0) := (blk_cell BK411.out 1).trans rfl
  have hfs22 := blk_frozen BK411.out 1
  have hns22_0 := NB403_411.out
  have hns22_1 := NB410_411.out
  have hms22_0 := NB411_403.out
  have hms22_1 := NB411_410.out
  have hs23 : w17.cell? ⟨gb411, 2, none⟩ = some (.string (⟨#[]⟩ : ByteArray)) := (blk_cell BK411.out 2).trans rfl
  have hfs23 := blk_frozen BK411.out 2
  have hns23_0 := NB403_411.out
  have hns23_1 := NB410_411.out
  have hms23_0 := NB411_403.out
  have hms23_1 := NB411_410.out
  refine skip_ (w1 := ?_) (by rfl) rfl ?_ ?_
  rotate_left
  · go_simp
    rfl
  refine hK.out _ _ ⟨((cell_far (p := ⟨gb411, _, none⟩) NB403_411.out _).trans (((cell_far (p := ⟨gb411, _, none⟩) NB403_411.out _).trans (((cell_far (p := ⟨gb411, _, none⟩) NB403_411.out _).trans (hHeld.1)))))), ((cell_far (p := ⟨gb411, _, none⟩) NB403_411.out _).trans (((cell_far (p := ⟨gb411, _, none⟩) NB403_411.out _).trans (((cell_far (p := ⟨gb411, _, none⟩) NB403_411.out _).trans (hHeld.2))))))⟩ (fun hHeld => ?_)
  clear hK K
  refine done_ (done_of HT_.out (by kernel_rfl)) ?_
  have hnb24 := NB410_403.out
  have hnc24 := NB403_410.out
  have hnb25 := NB410_411.out
  have hnc25 := NB411_410.out
  have hcz26_0 : w17.cell? ⟨gb410, 0, none⟩ = some (.int .i64 0) := (blk_cell BK410.out 0).trans rfl
  have hcz26_1 : w17.cell? ⟨gb410, 1, none⟩ = some (.int .i64 0) := (blk_cell BK410.out 1).trans rfl
  have hcz26_2 : w17.cell? ⟨gb410, 2, none⟩ = some (.string (⟨#[]⟩ : ByteArray)) := (blk_cell BK410.out 2).trans rfl
  have hfz26_0 := blk_frozen BK410.out 0
  have hfz26_1 := blk_frozen BK410.out 1
  have hfz26_2 := blk_frozen BK410.out 2
  have hnb27 := NB411_403.out
  have hnc27 := NB403_411.out
  have hcz28_0 : w17.cell? ⟨gb411, 0, none⟩ = some (.int .i64 0) := (blk_cell BK411.out 0).trans rfl
  have hcz28_1 : w17.cell? ⟨gb411, 1, none⟩ = some (.int .i64 0) := (blk_cell BK411.out 1).trans rfl
  have hcz28_2 : w17.cell? ⟨gb411, 2, none⟩ = some (.string (⟨#[]⟩ : ByteArray)) := (blk_cell BK411.out 2).trans rfl
  have hfz28_0 := blk_frozen BK411.out 0
  have hfz28_1 := blk_frozen BK411.out 1
  have hfz28_2 := blk_frozen BK411.out 2
  go_upto_region 6 with (first | ((with_reducible refine gate_callee (f := 10) rfl ?_); refine goesL_ (some 40) rfl rfl Try.func10 (by kernel_rfl) rfl #[.agg #[.int .i64 t404, .int .i64 t405, .string t406], .agg #[.int .i64 t407, .int .i64 t408, .string t409]] rfl (by (try simp only [List.map_toArray, List.map_cons, List.map_nil]); first | done | rfl | (simp only [List.length_drop, List.length_take]; rfl)) ?_; (with_reducible refine (arith_Add.calls k t404 t405 t406 t407 t408 t409 t412 t413 t414 t415 _ A6.out).mono ?_); rintro e w29 ⟨rfl, hb⟩; refine ⟨_, rfl, ?_⟩; have n0_ := Aside0.mk (blk_below (g := gb403) (o := .cells #[.bool a2_0, .bool a2_1] 30 (0, 0)) (by (with_reducible repeat (first | refine blk_drewN ?_ _ | refine blk_drew ?_ | refine blk_alloc ?_ _)); refine blk_far ?_ NB403_411.out _; (with_reducible repeat (first | refine blk_drewN ?_ _ | refine blk_drew ?_ | refine blk_alloc ?_ _)); refine blk_far ?_ NB403_411.out _; (with_reducible repeat (first | refine blk_drewN ?_ _ | refine blk_drew ?_ | refine blk_alloc ?_ _)); refine blk_far ?_ NB403_411.out _; (with_reducible repeat (first | refine blk_drewN ?_ _ | refine blk_drew ?_ | refine blk_alloc ?_ _)); refine blk_far ?_ NB403_410.out _; (with_reducible repeat (first | refine blk_drewN ?_ _ | refine blk_drew ?_ | refine blk_alloc ?_ _)); refine blk_far ?_ NB403_410.out _; (with_reducible repeat (first | refine blk_drewN ?_ _ | refine blk_drew ?_ | refine blk_alloc ?_ _)); refine blk_far ?_ NB403_410.out _; (with_reducible repeat (first | refine blk_drewN ?_ _ | refine blk_drew ?_ | refine blk_alloc ?_ _)); exact BK403.out) hb); have n1_ := Aside0.mk (blk_below (g := gb410) (o := .cells #[.int .i64 t404, .int .i64 t405, .string t406] 23 (0, 0)) (by (with_reducible repeat (first | refine blk_drewN ?_ _ | refine blk_drew ?_ | refine blk_alloc ?_ _)); refine blk_far ?_ NB410_411.out _; (with_reducible repeat (first | refine blk_drewN ?_ _ | refine blk_drew ?_ | refine blk_alloc ?_ _)); refine blk_far ?_ NB410_411.out _; (with_reducible repeat (first | refine blk_drewN ?_ _ | refine blk_drew ?_ | refine blk_alloc ?_ _)); refine blk_far ?_ NB410_411.out _; (with_reducible repeat (first | refine blk_drewN ?_ _ | refine blk_drew ?_ | refine blk_alloc ?_ _)); refine blk_put (cs := #[.int .i64 t404, .int .i64 t405, .string (⟨#[]⟩ : ByteArray)]) ?_ 2 _ rfl; (with_reducible repeat (first | refine blk_drewN ?_ _ | refine blk_drew ?_ | refine blk_alloc ?_ _)); refine blk_put (cs := #[.int .i64 t404, .int .i64 0, .string (⟨#[]⟩ : ByteArray)]) ?_ 1 _ rfl; (with_reducible repeat (first | refine blk_drewN ?_ _ | refine blk_drew ?_ | refine blk_alloc ?_ _)); refine blk_put (cs := #[.int .i64 0, .int .i64 0, .string (⟨#[]⟩ : ByteArray)]) ?_ 0 _ rfl; (with_reducible repeat (first | refine blk_drewN ?_ _ | refine blk_drew ?_ | refine blk_alloc ?_ _)); exact BK410.out) hb); have n2_ := Aside0.mk (blk_below (g := gb411) (o := .cells #[.int .i64 t407, .int .i64 t408, .string t409] 23 (0, 0)) (by (with_reducible repeat (first | refine blk_drewN ?_ _ | refine blk_drew ?_ | refine blk_alloc ?_ _)); refine blk_put (cs := #[.int .i64 t407, .int .i64 t408, .string (⟨#[]⟩ : ByteArray)]) ?_ 2 _ rfl; (with_reducible repeat (first | refine blk_drewN ?_ _ | refine blk_drew ?_ | refine blk_alloc ?_ _)); refine blk_put (cs := #[.int .i64 t407, .int .i64 0, .string (⟨#[]⟩ : ByteArray)]) ?_ 1 _ rfl; (with_reducible repeat (first | refine blk_drewN ?_ _ | refine blk_drew ?_ | refine blk_alloc ?_ _)); refine blk_put (cs := #[.int .i64 0, .int .i64 0, .string (⟨#[]⟩ : ByteArray)]) ?_ 0 _ rfl; (with_reducible repeat (first | refine blk_drewN ?_ _ | refine blk_drew ?_ | refine blk_alloc ?_ _)); refine blk_far ?_ NB411_410.out _; (with_reducible repeat (first | refine blk_drewN ?_ _ | refine blk_drew ?_ | refine blk_alloc ?_ _)); refine blk_far ?_ NB411_410.out _; (with_reducible repeat (first | refine blk_drewN ?_ _ | refine blk_drew ?_ | refine blk_alloc ?_ _)); refine blk_far ?_ NB411_410.out _; (with_reducible repeat (first | refine blk_drewN ?_ _ | refine blk_drew ?_ | refine blk_alloc ?_ _)); exact BK411.out) hb); have n3_ := Aside0.mk (below_step (by repeat (first | (with_reducible first | exact HB.out | apply below_alloc | apply pw_below_drewN | apply below_drew1 | refine below_set ?_ GE403.out | refine below_set ?_ GE410.out | refine below_set ?_ GE411.out) | exact HB.out)) hb); clear BK403; clear BK410; clear BK411; clear HB; have BK403 := n0_; have BK410 := n1_; have BK411 := n2_; have HB := n3_; clear n0_ n1_ n2_ n3_; (try clear hb); (try clear hb2); (try clear hk); (try clear hi); (try clear A6)) | ((with_reducible refine gate_dst (N := 9) rfl ?_); refine box_event ?hg (N := 9) ?hd (cs := #[.int .i64 0, .int .i64 0, .string (⟨#[]⟩ : ByteArray)]) (t := 23) ?hr ?_; (case hd => rfl); (case hg => rfl); (case hr => first | (go_simp; done) | (go_simp; rfl)); intro gb416 hg w30 hbox hb; have n0_ := Aside0.mk (blk_below (g := gb403) (o := .cells #[.bool a2_0, .bool a2_1] 30 (0, 0)) (by (with_reducible repeat (first | refine blk_drewN ?_ _ | refine blk_drew ?_ | refine blk_alloc ?_ _)); exact BK403.out) hb); have n1_ := Aside0.mk (blk_below (g := gb410) (o := .cells #[.int .i64 t404, .int .i64 t405, .string t406] 23 (0, 0)) (by (with_reducible repeat (first | refine blk_drewN ?_ _ | refine blk_drew ?_ | refine blk_alloc ?_ _)); exact BK410.out) hb); have n2_ := Aside0.mk (blk_below (g := gb411) (o := .cells #[.int .i64 t407, .int .i64 t408, .string t409] 23 (0, 0)) (by (with_reducible repeat (first | refine blk_drewN ?_ _ | refine blk_drew ?_ | refine blk_alloc ?_ _)); exact BK411.out) hb); have n3_ := Aside0.mk (below_step (by repeat (first | (with_reducible first | exact HB.out | apply below_alloc | apply pw_below_drewN | apply below_drew1 | refine below_set ?_ GE403.out | refine below_set ?_ GE410.out | refine below_set ?_ GE411.out) | exact HB.out)) hb); have n4_ := Aside0.mk (hbox); have n5_ := Aside0.mk ((by rw [hg]; exact (below_size (by repeat (first | (with_reducible first | exact HB.out | apply below_alloc | apply pw_below_drewN | apply below_drew1 | refine below_set ?_ GE403.out | refine below_set ?_ GE410.out | refine below_set ?_ GE411.out) | exact HB.out))) : w.heap.size ≤ gb416)); have n6_ := Aside0.mk ((by rw [hg]; exact (below_size (by repeat (first | (with_reducible first | exact HB.out | apply below_alloc | apply pw_below_drewN | apply below_drew1 | refine below_set ?_ GE403.out | refine below_set ?_ GE410.out | refine below_set ?_ GE411.out) | exact HB.out))) : w.heap.size ≤ gb416)); have n7_ := Aside0.mk ((by rw [hg]; exact Nat.ne_of_lt (blk_lt (g := gb403) (o := .cells #[.bool a2_0, .bool a2_1] 30 (0, 0)) (by (with_reducible repeat (first | refine blk_drewN ?_ _ | refine blk_drew ?_ | refine blk_alloc ?_ _)); exact BK403.out)) : gb403 ≠ gb416)); have n8_ := Aside0.mk ((by rw [hg]; exact Nat.ne_of_gt (blk_lt (g := gb403) (o := .cells #[.bool a2_0, .bool a2_1] 30 (0, 0)) (by (with_reducible repeat (first | refine blk_drewN ?_ _ | refine blk_drew ?_ | refine blk_alloc ?_ _)); exact BK403.out)) : gb416 ≠ gb403)); have n9_ := Aside0.mk ((by rw [hg]; exact Nat.ne_of_lt (blk_lt (g := gb410) (o := .cells #[.int .i64 t404, .int .i64 t405, .string t406] 23 (0, 0)) (by (with_reducible repeat (first | refine blk_drewN ?_ _ | refine blk_drew ?_ | refine blk_alloc ?_ _)); exact BK410.out)) : gb410 ≠ gb416)); have n10_ := Aside0.mk ((by rw [hg]; exact Nat.ne_of_gt (blk_lt (g := gb410) (o := .cells #[.int .i64 t404, .int .i64 t405, .string t406] 23 (0, 0)) (by (with_reducible repeat (first | refine blk_drewN ?_ _ | refine blk_drew ?_ | refine blk_alloc ?_ _)); exact BK410.out)) : gb416 ≠ gb410)); have n11_ := Aside0.mk ((by rw [hg]; exact Nat.ne_of_lt (blk_lt (g := gb411) (o := .cells #[.int .i64 t407, .int .i64 t408, .string t409] 23 (0, 0)) (by (with_reducible repeat (first | refine blk_drewN ?_ _ | refine blk_drew ?_ | refine blk_alloc ?_ _)); exact BK411.out)) : gb411 ≠ gb416)); have n12_ := Aside0.mk ((by rw [hg]; exact Nat.ne_of_gt (blk_lt (g := gb411) (o := .cells #[.int .i64 t407, .int .i64 t408, .string t409] 23 (0, 0)) (by (with_reducible repeat (first | refine blk_drewN ?_ _ | refine blk_drew ?_ | refine blk_alloc ?_ _)); exact BK411.out)) : gb416 ≠ gb411)); clear BK403; clear BK410; clear BK411; clear HB; have BK403 := n0_; have BK410 := n1_; have BK411 := n2_; have HB := n3_; have BK416 := n4_; have GW416 := n5_; have GE416 := n6_; have NB403_416 := n7_; have NB416_403 := n8_; have NB410_416 := n9_; have NB416_410 := n10_; have NB411_416 := n11_; have NB416_411 := n12_; clear n0_ n1_ n2_ n3_ n4_ n5_ n6_ n7_ n8_ n9_ n10_ n11_ n12_; clear hb hbox hg; have hnb31 := NB416_403.out; have hnc31 := NB403_416.out; have hnb32 := NB416_410.out; have hnc32 := NB410_416.out; have hnb33 := NB416_411.out; have hnc33 := NB411_416.out; have hcz34_0 : w30.cell? ⟨gb416, 0, none⟩ = some (.int .i64 0) := (blk_cell BK416.out 0).trans rfl; have hcz34_1 : w30.cell? ⟨gb416, 1, none⟩ = some (.int .i64 0) := (blk_cell BK416.out 1).trans rfl; have hcz34_2 : w30.cell? ⟨gb416, 2, none⟩ = some (.string (⟨#[]⟩ : ByteArray)) := (blk_cell BK416.out 2).trans rfl; have hfz34_0 := blk_frozen BK416.out 0; have hfz34_1 := blk_frozen BK416.out 1; have hfz34_2 := blk_frozen BK416.out 2; have hcz35_0 : w30.cell? ⟨gb411, 0, none⟩ = some (.int .i64 t407) := (blk_cell BK411.out 0).trans rfl; have hcz35_1 : w30.cell? ⟨gb411, 1, none⟩ = some (.int .i64 t408) := (blk_cell BK411.out 1).trans rfl; have hcz35_2 : w30.cell? ⟨gb411, 2, none⟩ = some (.string t409) := (blk_cell BK411.out 2).trans rfl; have hfz35_0 := blk_frozen BK411.out 0; have hfz35_1 := blk_frozen BK411.out 1; have hfz35_2 := blk_frozen BK411.out 2; have hcz36_0 : w30.cell? ⟨gb410, 0, none⟩ = some (.int .i64 t404) := (blk_cell BK410.out 0).trans rfl; have hcz36_1 : w30.cell? ⟨gb410, 1, none⟩ = some (.int .i64 t405) := (blk_cell BK410.out 1).trans rfl; have hcz36_2 : w30.cell? ⟨gb410, 2, none⟩ = some (.string t406) := (blk_cell BK410.out 2).trans rfl; have hfz36_0 := blk_frozen BK410.out 0; have hfz36_1 := blk_frozen BK410.out 1; have hfz36_2 := blk_frozen BK410.out 2) | ((with_reducible refine gate_callee (f := 10) rfl ?_); refine goesL_ (some 46) rfl rfl Try.func10 (by kernel_rfl) rfl #[.agg #[.int .i64 t407, .int .i64 t408, .string t409], .agg #[.int .i64 t404, .int .i64 t405, .string t406]] rfl (by (try simp only [List.map_toArray, List.map_cons, List.map_nil]); first | done | rfl | (simp only [List.length_drop, List.length_take]; rfl)) ?_; (with_reducible refine (arith_Add.calls k t407 t408 t409 t404 t405 t406 t412 t413 t414 t415 _ A7.out).mono ?_); rintro e w37 ⟨rfl, hb⟩; refine ⟨_, rfl, ?_⟩; have n0_ := Aside0.mk (blk_below (g := gb403) (o := .cells #[.bool a2_0, .bool a2_1] 30 (0, 0)) (by (with_reducible repeat (first | refine blk_drewN ?_ _ | refine blk_drew ?_ | refine blk_alloc ?_ _)); refine blk_far ?_ NB403_416.out _; (with_reducible repeat (first | refine blk_drewN ?_ _ | refine blk_drew ?_ | refine blk_alloc ?_ _)); refine blk_far ?_ NB403_416.out _; (with_reducible repeat (first | refine blk_drewN ?_ _ | refine blk_drew ?_ | refine blk_alloc ?_ _)); refine blk_far ?_ NB403_416.out _; (with_reducible repeat (first | refine blk_drewN ?_ _ | refine blk_drew ?_ | refine blk_alloc ?_ _)); exact BK403.out) hb); have n1_ := Aside0.mk (blk_below (g := gb410) (o := .cells #[.int .i64 t404, .int .i64 t405, .string t406] 23 (0, 0)) (by (with_reducible repeat (first | refine blk_drewN ?_ _ | refine blk_drew ?_ | refine blk_alloc ?_ _)); refine blk_far ?_ NB410_416.out _; (with_reducible repeat (first | refine blk_drewN ?_ _ | refine blk_drew ?_ | refine blk_alloc ?_ _)); refine blk_far ?_ NB410_416.out _; (with_reducible repeat (first | refine blk_drewN ?_ _ | refine blk_drew ?_ | refine blk_alloc ?_ _)); refine blk_far ?_ NB410_416.out _; (with_reducible repeat (first | refine blk_drewN ?_ _ | refine blk_drew ?_ | refine blk_alloc ?_ _)); exact BK410.out) hb); have n2_ := Aside0.mk (blk_below (g := gb411) (o := .cells #[.int .i64 t407, .int .i64 t408, .string t409] 23 (0, 0)) (by (with_reducible repeat (first | refine blk_drewN ?_ _ | refine blk_drew ?_ | refine blk_alloc ?_ _)); refine blk_far ?_ NB411_416.out _; (with_reducible repeat (first | refine blk_drewN ?_ _ | refine blk_drew ?_ | refine blk_alloc ?_ _)); refine blk_far ?_ NB411_416.out _; (with_reducible repeat (first | refine blk_drewN ?_ _ | refine blk_drew ?_ | refine blk_alloc ?_ _)); refine blk_far ?_ NB411_416.out _; (with_reducible repeat (first | refine blk_drewN ?_ _ | refine blk_drew ?_ | refine blk_alloc ?_ _)); exact BK411.out) hb); have n3_ := Aside0.mk (blk_below (g := gb416) (o := .cells #[.int .i64 t412, .int .i64 t413, .string t414] 23 (0, 0)) (by (with_reducible repeat (first | refine blk_drewN ?_ _ | refine blk_drew ?_ | refine blk_alloc ?_ _)); refine blk_put (cs := #[.int .i64 t412, .int .i64 t413, .string (⟨#[]⟩ : ByteArray)]) ?_ 2 _ rfl; (with_reducible repeat (first | refine blk_drewN ?_ _ | refine blk_drew ?_ | refine blk_alloc ?_ _)); refine blk_put (cs := #[.int .i64 t412, .int .i64 0, .string (⟨#[]⟩ : ByteArray)]) ?_ 1 _ rfl; (with_reducible repeat (first | refine blk_drewN ?_ _ | refine blk_drew ?_ | refine blk_alloc ?_ _)); refine blk_put (cs := #[.int .i64 0, .int .i64 0, .string (⟨#[]⟩ : ByteArray)]) ?_ 0 _ rfl; (with_reducible repeat (first | refine blk_drewN ?_ _ | refine blk_drew ?_ | refine blk_alloc ?_ _)); exact BK416.out) hb); have n4_ := Aside0.mk (below_step (by repeat (first | (with_reducible first | exact HB.out | apply below_alloc | apply pw_below_drewN | apply below_drew1 | refine below_set ?_ GE403.out | refine below_set ?_ GE410.out | refine below_set ?_ GE411.out | refine below_set ?_ GE416.out) | exact HB.out)) hb); clear BK403; clear BK410; clear BK411; clear BK416; clear HB; have BK403 := n0_; have BK410 := n1_; have BK411 := n2_; have BK416 := n3_; have HB := n4_; clear n0_ n1_ n2_ n3_ n4_; (try clear hb); (try clear hb2); (try clear hk); (try clear hi); (try clear A7)) | ((with_reducible refine gate_dst (N := 11) rfl ?_); refine box_event ?hg (N := 11) ?hd (cs := #[.int .i64 0, .int .i64 0, .string (⟨#[]⟩ : ByteArray)]) (t := 23) ?hr ?_; (case hd => rfl); (case hg => rfl); (case hr => first | (go_simp; done) | (go_simp; rfl)); intro gb421 hg w38 hbox hb; have n0_ := Aside0.mk (blk_below (g := gb403) (o := .cells #[.bool a2_0, .bool a2_1] 30 (0, 0)) (by (with_reducible repeat (first | refine blk_drewN ?_ _ | refine blk_drew ?_ | refine blk_alloc ?_ _)); exact BK403.out) hb); have n1_ := Aside0.mk (blk_below (g := gb410) (o := .cells #[.int .i64 t404, .int .i64 t405, .string t406] 23 (0, 0)) (by (with_reducible repeat (first | refine blk_drewN ?_ _ | refine blk_drew ?_ | refine blk_alloc ?_ _)); exact BK410.out) hb); have n2_ := Aside0.mk (blk_below (g := gb411) (o := .cells #[.int .i64 t407, .int .i64 t408, .string t409] 23 (0, 0)) (by (with_reducible repeat (first | refine blk_drewN ?_ _ | refine blk_drew ?_ | refine blk_alloc ?_ _)); exact BK411.out) hb); have n3_ := Aside0.mk (blk_below (g := gb416) (o := .cells #[.int .i64 t412, .int .i64 t413, .string t414] 23 (0, 0)) (by (with_reducible repeat (first | refine blk_drewN ?_ _ | refine blk_drew ?_ | refine blk_alloc ?_ _)); exact BK416.out) hb); have n4_ := Aside0.mk (below_step (by repeat (first | (with_reducible first | exact HB.out | apply below_alloc | apply pw_below_drewN | apply below_drew1 | refine below_set ?_ GE403.out | refine below_set ?_ GE410.out | refine below_set ?_ GE411.out | refine below_set ?_ GE416.out) | exact HB.out)) hb); have n5_ := Aside0.mk (hbox); have n6_ := Aside0.mk ((by rw [hg]; exact (below_size (by repeat (first | (with_reducible first | exact HB.out | apply below_alloc | apply pw_below_drewN | apply below_drew1 | refine below_set ?_ GE403.out | refine below_set ?_ GE410.out | refine below_set ?_ GE411.out | refine below_set ?_ GE416.out) | exact HB.out))) : w.heap.size ≤ gb421)); have n7_ := Aside0.mk ((by rw [hg]; exact (below_size (by repeat (first | (with_reducible first | exact HB.out | apply below_alloc | apply pw_below_drewN | apply below_drew1 | refine below_set ?_ GE403.out | refine below_set ?_ GE410.out | refine below_set ?_ GE411.out | refine below_set ?_ GE416.out) | exact HB.out))) : w.heap.size ≤ gb421)); have n8_ := Aside0.mk ((by rw [hg]; exact Nat.ne_of_lt (blk_lt (g := gb403) (o := .cells #[.bool a2_0, .bool a2_1] 30 (0, 0)) (by (with_reducible repeat (first | refine blk_drewN ?_ _ | refine blk_drew ?_ | refine blk_alloc ?_ _)); exact BK403.out)) : gb403 ≠ gb421)); have n9_ := Aside0.mk ((by rw [hg]; exact Nat.ne_of_gt (blk_lt (g := gb403) (o := .cells #[.bool a2_0, .bool a2_1] 30 (0, 0)) (by (with_reducible repeat (first | refine blk_drewN ?_ _ | refine blk_drew ?_ | refine blk_alloc ?_ _)); exact BK403.out)) : gb421 ≠ gb403)); have n10_ := Aside0.mk ((by rw [hg]; exact Nat.ne_of_lt (blk_lt (g := gb410) (o := .cells #[.int .i64 t404, .int .i64 t405, .string t406] 23 (0, 0)) (by (with_reducible repeat (first | refine blk_drewN ?_ _ | refine blk_drew ?_ | refine blk_alloc ?_ _)); exact BK410.out)) : gb410 ≠ gb421)); have n11_ := Aside0.mk ((by rw [hg]; exact Nat.ne_of_gt (blk_lt (g := gb410) (o := .cells #[.int .i64 t404, .int .i64 t405, .string t406] 23 (0, 0)) (by (with_reducible repeat (first | refine blk_drewN ?_ _ | refine blk_drew ?_ | refine blk_alloc ?_ _)); exact BK410.out)) : gb421 ≠ gb410)); have n12_ := Aside0.mk ((by rw [hg]; exact Nat.ne_of_lt (blk_lt (g := gb411) (o := .cells #[.int .i64 t407, .int .i64 t408, .string t409] 23 (0, 0)) (by (with_reducible repeat (first | refine blk_drewN ?_ _ | refine blk_drew ?_ | refine blk_alloc ?_ _)); exact BK411.out)) : gb411 ≠ gb421)); have n13_ := Aside0.mk ((by rw [hg]; exact Nat.ne_of_gt (blk_lt (g := gb411) (o := .cells #[.int .i64 t407, .int .i64 t408, .string t409] 23 (0, 0)) (by (with_reducible repeat (first | refine blk_drewN ?_ _ | refine blk_drew ?_ | refine blk_alloc ?_ _)); exact BK411.out)) : gb421 ≠ gb411)); have n14_ := Aside0.mk ((by rw [hg]; exact Nat.ne_of_lt (blk_lt (g := gb416) (o := .cells #[.int .i64 t412, .int .i64 t413, .string t414] 23 (0, 0)) (by (with_reducible repeat (first | refine blk_drewN ?_ _ | refine blk_drew ?_ | refine blk_alloc ?_ _)); exact BK416.out)) : gb416 ≠ gb421)); have n15_ := Aside0.mk ((by rw [hg]; exact Nat.ne_of_gt (blk_lt (g := gb416) (o := .cells #[.int .i64 t412, .int .i64 t413, .string t414] 23 (0, 0)) (by (with_reducible repeat (first | refine blk_drewN ?_ _ | refine blk_drew ?_ | refine blk_alloc ?_ _)); exact BK416.out)) : gb421 ≠ gb416)); clear BK403; clear BK410; clear BK411; clear BK416; clear HB; have BK403 := n0_; have BK410 := n1_; have BK411 := n2_; have BK416 := n3_; have HB := n4_; have BK421 := n5_; have GW421 := n6_; have GE421 := n7_; have NB403_421 := n8_; have NB421_403 := n9_; have NB410_421 := n10_; have NB421_410 := n11_; have NB411_421 := n12_; have NB421_411 := n13_; have NB416_421 := n14_; have NB421_416 := n15_; clear n0_ n1_ n2_ n3_ n4_ n5_ n6_ n7_ n8_ n9_ n10_ n11_ n12_ n13_ n14_ n15_; clear hb hbox hg; have hnb39 := NB421_403.out; have hnc39 := NB403_421.out; have hnb40 := NB421_410.out; have hnc40 := NB410_421.out; have hnb41 := NB421_411.out; have hnc41 := NB411_421.out; have hnb42 := NB421_416.out; have hnc42 := NB416_421.out; have hcz43_0 : w38.cell? ⟨gb421, 0, none⟩ = some (.int .i64 0) := (blk_cell BK421.out 0).trans rfl; have hcz43_1 : w38.cell? ⟨gb421, 1, none⟩ = some (.int .i64 0) := (blk_cell BK421.out 1).trans rfl; have hcz43_2 : w38.cell? ⟨gb421, 2, none⟩ = some (.string (⟨#[]⟩ : ByteArray)) := (blk_cell BK421.out 2).trans rfl; have hfz43_0 := blk_frozen BK421.out 0; have hfz43_1 := blk_frozen BK421.out 1; have hfz43_2 := blk_frozen BK421.out 2; have hcz44_0 : w38.cell? ⟨gb410, 0, none⟩ = some (.int .i64 t404) := (blk_cell BK410.out 0).trans rfl; have hcz44_1 : w38.cell? ⟨gb410, 1, none⟩ = some (.int .i64 t405) := (blk_cell BK410.out 1).trans rfl; have hcz44_2 : w38.cell? ⟨gb410, 2, none⟩ = some (.string t406) := (blk_cell BK410.out 2).trans rfl; have hfz44_0 := blk_frozen BK410.out 0; have hfz44_1 := blk_frozen BK410.out 1; have hfz44_2 := blk_frozen BK410.out 2; have hcz45_0 : w38.cell? ⟨gb411, 0, none⟩ = some (.int .i64 t407) := (blk_cell BK411.out 0).trans rfl; have hcz45_1 : w38.cell? ⟨gb411, 1, none⟩ = some (.int .i64 t408) := (blk_cell BK411.out 1).trans rfl; have hcz45_2 : w38.cell? ⟨gb411, 2, none⟩ = some (.string t409) := (blk_cell BK411.out 2).trans rfl; have hfz45_0 := blk_frozen BK411.out 0; have hfz45_1 := blk_frozen BK411.out 1; have hfz45_2 := blk_frozen BK411.out 2) | ((with_reducible refine gate_callee (f := 8) rfl ?_); refine goesL_ (some 52) rfl rfl Try.func8 (by kernel_rfl) rfl #[.agg #[.int .i64 t404, .int .i64 t405, .string t406], .agg #[.int .i64 t407, .int .i64 t408, .string t409]] rfl (by (try simp only [List.map_toArray, List.map_cons, List.map_nil]); first | done | rfl | (simp only [List.length_drop, List.length_take]; rfl)) ?_; (with_reducible refine (arith_Mul.calls k t404 t405 t406 t407 t408 t409 t422 t423 t424 t425 _ A8.out).mono ?_); rintro e w46 ⟨rfl, hb⟩; refine ⟨_, rfl, ?_⟩; have n0_ := Aside0.mk (blk_below (g := gb403) (o := .cells #[.bool a2_0, .bool a2_1] 30 (0, 0)) (by (with_reducible repeat (first | refine blk_drewN ?_ _ | refine blk_drew ?_ | refine blk_alloc ?_ _)); refine blk_far ?_ NB403_421.out _; (with_reducible repeat (first | refine blk_drewN ?_ _ | refine blk_drew ?_ | refine blk_alloc ?_ _)); refine blk_far ?_ NB403_421.out _; (with_reducible repeat (first | refine blk_drewN ?_ _ | refine blk_drew ?_ | refine blk_alloc ?_ _)); refine blk_far ?_ NB403_421.out _; (with_reducible repeat (first | refine blk_drewN ?_ _ | refine blk_drew ?_ | refine blk_alloc ?_ _)); exact BK403.out) hb); have n1_ := Aside0.mk (blk_below (g := gb410) (o := .cells #[.int .i64 t404, .int .i64 t405, .string t406] 23 (0, 0)) (by (with_reducible repeat (first | refine blk_drewN ?_ _ | refine blk_drew ?_ | refine blk_alloc ?_ _)); refine blk_far ?_ NB410_421.out _; (with_reducible repeat (first | refine blk_drewN ?_ _ | refine blk_drew ?_ | refine blk_alloc ?_ _)); refine blk_far ?_ NB410_421.out _; (with_reducible repeat (first | refine blk_drewN ?_ _ | refine blk_drew ?_ | refine blk_alloc ?_ _)); refine blk_far ?_ NB410_421.out _; (with_reducible repeat (first | refine blk_drewN ?_ _ | refine blk_drew ?_ | refine blk_alloc ?_ _)); exact BK410.out) hb); have n2_ := Aside0.mk (blk_below (g := gb411) (o := .cells #[.int .i64 t407, .int .i64 t408, .string t409] 23 (0, 0)) (by (with_reducible repeat (first | refine blk_drewN ?_ _ | refine blk_drew ?_ | refine blk_alloc ?_ _)); refine blk_far ?_ NB411_421.out _; (with_reducible repeat (first | refine blk_drewN ?_ _ | refine blk_drew ?_ | refine blk_alloc ?_ _)); refine blk_far ?_ NB411_421.out _; (with_reducible repeat (first | refine blk_drewN ?_ _ | refine blk_drew ?_ | refine blk_alloc ?_ _)); refine blk_far ?_ NB411_421.out _; (with_reducible repeat (first | refine blk_drewN ?_ _ | refine blk_drew ?_ | refine blk_alloc ?_ _)); exact BK411.out) hb); have n3_ := Aside0.mk (blk_below (g := gb416) (o := .cells #[.int .i64 t412, .int .i64 t413, .string t414] 23 (0, 0)) (by (with_reducible repeat (first | refine blk_drewN ?_ _ | refine blk_drew ?_ | refine blk_alloc ?_ _)); refine blk_far ?_ NB416_421.out _; (with_reducible repeat (first | refine blk_drewN ?_ _ | refine blk_drew ?_ | refine blk_alloc ?_ _)); refine blk_far ?_ NB416_421.out _; (with_reducible repeat (first | refine blk_drewN ?_ _ | refine blk_drew ?_ | refine blk_alloc ?_ _)); refine blk_far ?_ NB416_421.out _; (with_reducible repeat (first | refine blk_drewN ?_ _ | refine blk_drew ?_ | refine blk_alloc ?_ _)); exact BK416.out) hb); have n4_ := Aside0.mk (blk_below (g := gb421) (o := .cells #[.int .i64 t412, .int .i64 t413, .string t414] 23 (0, 0)) (by (with_reducible repeat (first | refine blk_drewN ?_ _ | refine blk_drew ?_ | refine blk_alloc ?_ _)); refine blk_put (cs := #[.int .i64 t412, .int .i64 t413, .string (⟨#[]⟩ : ByteArray)]) ?_ 2 _ rfl; (with_reducible repeat (first | refine blk_drewN ?_ _ | refine blk_drew ?_ | refine blk_alloc ?_ _)); refine blk_put (cs := #[.int .i64 t412, .int .i64 0, .string (⟨#[]⟩ : ByteArray)]) ?_ 1 _ rfl; (with_reducible repeat (first | refine blk_drewN ?_ _ | refine blk_drew ?_ | refine blk_alloc ?_ _)); refine blk_put (cs := #[.int .i64 0, .int .i64 0, .string (⟨#[]⟩ : ByteArray)]) ?_ 0 _ rfl; (with_reducible repeat (first | refine blk_drewN ?_ _ | refine blk_drew ?_ | refine blk_alloc ?_ _)); exact BK421.out) hb); have n5_ := Aside0.mk (below_step (by repeat (first | (with_reducible first | exact HB.out | apply below_alloc | apply pw_below_drewN | apply below_drew1 | refine below_set ?_ GE403.out | refine below_set ?_ GE410.out | refine below_set ?_ GE411.out | refine below_set ?_ GE416.out | refine below_set ?_ GE421.out) | exact HB.out)) hb); clear BK403; clear BK410; clear BK411; clear BK416; clear BK421; clear HB; have BK403 := n0_; have BK410 := n1_; have BK411 := n2_; have BK416 := n3_; have BK421 := n4_; have HB := n5_; clear n0_ n1_ n2_ n3_ n4_ n5_; (try clear hb); (try clear hb2); (try clear hk); (try clear hi); (try clear A8)) | ((with_reducible refine gate_dst (N := 13) rfl ?_); refine box_event ?hg (N := 13) ?hd (cs := #[.int .i64 0, .int .i64 0, .string (⟨#[]⟩ : ByteArray)]) (t := 23) ?hr ?_; (case hd => rfl); (case hg => rfl); (case hr => first | (go_simp; done) | (go_simp; rfl)); intro gb426 hg w47 hbox hb; have n0_ := Aside0.mk (blk_below (g := gb403) (o := .cells #[.bool a2_0, .bool a2_1] 30 (0, 0)) (by (with_reducible repeat (first | refine blk_drewN ?_ _ | refine blk_drew ?_ | refine blk_alloc ?_ _)); exact BK403.out) hb); have n1_ := Aside0.mk (blk_below (g := gb410) (o := .cells #[.int .i64 t404, .int .i64 t405, .string t406] 23 (0, 0)) (by (with_reducible repeat (first | refine blk_drewN ?_ _ | refine blk_drew ?_ | refine blk_alloc ?_ _)); exact BK410.out) hb); have n2_ := Aside0.mk (blk_below (g := gb411) (o := .cells #[.int .i64 t407, .int .i64 t408, .string t409] 23 (0, 0)) (by (with_reducible repeat (first | refine blk_drewN ?_ _ | refine blk_drew ?_ | refine blk_alloc ?_ _)); exact BK411.out) hb); have n3_ := Aside0.mk (blk_below (g := gb416) (o := .cells #[.int .i64 t412, .int .i64 t413, .string t414] 23 (0, 0)) (by (with_reducible repeat (first | refine blk_drewN ?_ _ | refine blk_drew ?_ | refine blk_alloc ?_ _)); exact BK416.out) hb); have n4_ := Aside0.mk (blk_below (g := gb421) (o := .cells #[.int .i64 t412, .int .i64 t413, .string t414] 23 (0, 0)) (by (with_reducible repeat (first | refine blk_drewN ?_ _ | refine blk_drew ?_ | refine blk_alloc ?_ _)); exact BK421.out) hb); have n5_ := Aside0.mk (below_step (by repeat (first | (with_reducible first | exact HB.out | apply below_alloc | apply pw_below_drewN | apply below_drew1 | refine below_set ?_ GE403.out | refine below_set ?_ GE410.out | refine below_set ?_ GE411.out | refine below_set ?_ GE416.out | refine below_set ?_ GE421.out) | exact HB.out)) hb); have n6_ := Aside0.mk (hbox); have n7_ := Aside0.mk ((by rw [hg]; exact (below_size (by repeat (first | (with_reducible first | exact HB.out | apply below_alloc | apply pw_below_drewN | apply below_drew1 | refine below_set ?_ GE403.out | refine below_set ?_ GE410.out | refine below_set ?_ GE411.out | refine below_set ?_ GE416.out | refine below_set ?_ GE421.out) | exact HB.out))) : w.heap.size ≤ gb426)); have n8_ := Aside0.mk ((by rw [hg]; exact (below_size (by repeat (first | (with_reducible first | exact HB.out | apply below_alloc | apply pw_below_drewN | apply below_drew1 | refine below_set ?_ GE403.out | refine below_set ?_ GE410.out | refine below_set ?_ GE411.out | refine below_set ?_ GE416.out | refine below_set ?_ GE421.out) | exact HB.out))) : w.heap.size ≤ gb426)); have n9_ := Aside0.mk ((by rw [hg]; exact Nat.ne_of_lt (blk_lt (g := gb403) (o := .cells #[.bool a2_0, .bool a2_1] 30 (0, 0)) (by (with_reducible repeat (first | refine blk_drewN ?_ _ | refine blk_drew ?_ | refine blk_alloc ?_ _)); exact BK403.out)) : gb403 ≠ gb426)); have n10_ := Aside0.mk ((by rw [hg]; exact Nat.ne_of_gt (blk_lt (g := gb403) (o := .cells #[.bool a2_0, .bool a2_1] 30 (0, 0)) (by (with_reducible repeat (first | refine blk_drewN ?_ _ | refine blk_drew ?_ | refine blk_alloc ?_ _)); exact BK403.out)) : gb426 ≠ gb403)); have n11_ := Aside0.mk ((by rw [hg]; exact Nat.ne_of_lt (blk_lt (g := gb410) (o := .cells #[.int .i64 t404, .int .i64 t405, .string t406] 23 (0, 0)) (by (with_reducible repeat (first | refine blk_drewN ?_ _ | refine blk_drew ?_ | refine blk_alloc ?_ _)); exact BK410.out)) : gb410 ≠ gb426)); have n12_ := Aside0.mk ((by rw [hg]; exact Nat.ne_of_gt (blk_lt (g := gb410) (o := .cells #[.int .i64 t404, .int .i64 t405, .string t406] 23 (0, 0)) (by (with_reducible repeat (first | refine blk_drewN ?_ _ | refine blk_drew ?_ | refine blk_alloc ?_ _)); exact BK410.out)) : gb426 ≠ gb410)); have n13_ := Aside0.mk ((by rw [hg]; exact Nat.ne_of_lt (blk_lt (g := gb411) (o := .cells #[.int .i64 t407, .int .i64 t408, .string t409] 23 (0, 0)) (by (with_reducible repeat (first | refine blk_drewN ?_ _ | refine blk_drew ?_ | refine blk_alloc ?_ _)); exact BK411.out)) : gb411 ≠ gb426)); have n14_ := Aside0.mk ((by rw [hg]; exact Nat.ne_of_gt (blk_lt (g := gb411) (o := .cells #[.int .i64 t407, .int .i64 t408, .string t409] 23 (0, 0)) (by (with_reducible repeat (first | refine blk_drewN ?_ _ | refine blk_drew ?_ | refine blk_alloc ?_ _)); exact BK411.out)) : gb426 ≠ gb411)); have n15_ := Aside0.mk ((by rw [hg]; exact Nat.ne_of_lt (blk_lt (g := gb416) (o := .cells #[.int .i64 t412, .int .i64 t413, .string t414] 23 (0, 0)) (by (with_reducible repeat (first | refine blk_drewN ?_ _ | refine blk_drew ?_ | refine blk_alloc ?_ _)); exact BK416.out)) : gb416 ≠ gb426)); have n16_ := Aside0.mk ((by rw [hg]; exact Nat.ne_of_gt (blk_lt (g := gb416) (o := .cells #[.int .i64 t412, .int .i64 t413, .string t414] 23 (0, 0)) (by (with_reducible repeat (first | refine blk_drewN ?_ _ | refine blk_drew ?_ | refine blk_alloc ?_ _)); exact BK416.out)) : gb426 ≠ gb416)); have n17_ := Aside0.mk ((by rw [hg]; exact Nat.ne_of_lt (blk_lt (g := gb421) (o := .cells #[.int .i64 t412, .int .i64 t413, .string t414] 23 (0, 0)) (by (with_reducible repeat (first | refine blk_drewN ?_ _ | refine blk_drew ?_ | refine blk_alloc ?_ _)); exact BK421.out)) : gb421 ≠ gb426)); have n18_ := Aside0.mk ((by rw [hg]; exact Nat.ne_of_gt (blk_lt (g := gb421) (o := .cells #[.int .i64 t412, .int .i64 t413, .string t414] 23 (0, 0)) (by (with_reducible repeat (first | refine blk_drewN ?_ _ | refine blk_drew ?_ | refine blk_alloc ?_ _)); exact BK421.out)) : gb426 ≠ gb421)); clear BK403; clear BK410; clear BK411; clear BK416; clear BK421; clear HB; have BK403 := n0_; have BK410 := n1_; have BK411 := n2_; have BK416 := n3_; have BK421 := n4_; have HB := n5_; have BK426 := n6_; have GW426 := n7_; have GE426 := n8_; have NB403_426 := n9_; have NB426_403 := n10_; have NB410_426 := n11_; have NB426_410 := n12_; have NB411_426 := n13_; have NB426_411 := n14_; have NB416_426 := n15_; have NB426_416 := n16_; have NB421_426 := n17_; have NB426_421 := n18_; clear n0_ n1_ n2_ n3_ n4_ n5_ n6_ n7_ n8_ n9_ n10_ n11_ n12_ n13_ n14_ n15_ n16_ n17_ n18_; clear hb hbox hg; have hnb48 := NB426_403.out; have hnc48 := NB403_426.out; have hnb49 := NB426_410.out; have hnc49 := NB410_426.out; have hnb50 := NB426_411.out; have hnc50 := NB411_426.out; have hnb51 := NB426_416.out; have hnc51 := NB416_426.out; have hnb52 := NB426_421.out; have hnc52 := NB421_426.out; have hcz53_0 : w47.cell? ⟨gb426, 0, none⟩ = some (.int .i64 0) := (blk_cell BK426.out 0).trans rfl; have hcz53_1 : w47.cell? ⟨gb426, 1, none⟩ = some (.int .i64 0) := (blk_cell BK426.out 1).trans rfl; have hcz53_2 : w47.cell? ⟨gb426, 2, none⟩ = some (.string (⟨#[]⟩ : ByteArray)) := (blk_cell BK426.out 2).trans rfl; have hfz53_0 := blk_frozen BK426.out 0; have hfz53_1 := blk_frozen BK426.out 1; have hfz53_2 := blk_frozen BK426.out 2; have hcz54_0 : w47.cell? ⟨gb411, 0, none⟩ = some (.int .i64 t407) := (blk_cell BK411.out 0).trans rfl; have hcz54_1 : w47.cell? ⟨gb411, 1, none⟩ = some (.int .i64 t408) := (blk_cell BK411.out 1).trans rfl; have hcz54_2 : w47.cell? ⟨gb411, 2, none⟩ = some (.string t409) := (blk_cell BK411.out 2).trans rfl; have hfz54_0 := blk_frozen BK411.out 0; have hfz54_1 := blk_frozen BK411.out 1; have hfz54_2 := blk_frozen BK411.out 2; have hcz55_0 : w47.cell? ⟨gb410, 0, none⟩ = some (.int .i64 t404) := (blk_cell BK410.out 0).trans rfl; have hcz55_1 : w47.cell? ⟨gb410, 1, none⟩ = some (.int .i64 t405) := (blk_cell BK410.out 1).trans rfl; have hcz55_2 : w47.cell? ⟨gb410, 2, none⟩ = some (.string t406) := (blk_cell BK410.out 2).trans rfl; have hfz55_0 := blk_frozen BK410.out 0; have hfz55_1 := blk_frozen BK410.out 1; have hfz55_2 := blk_frozen BK410.out 2) | ((with_reducible refine gate_callee (f := 8) rfl ?_); refine goesL_ (some 58) rfl rfl Try.func8 (by kernel_rfl) rfl #[.agg #[.int .i64 t407, .int .i64 t408, .string t409], .agg #[.int .i64 t404, .int .i64 t405, .string t406]] rfl (by (try simp only [List.map_toArray, List.map_cons, List.map_nil]); first | done | rfl | (simp only [List.length_drop, List.length_take]; rfl)) ?_; (with_reducible refine (arith_Mul.calls k t407 t408 t409 t404 t405 t406 t422 t423 t424 t425 _ A9.out).mono ?_); rintro e w56 ⟨rfl, hb⟩; refine ⟨_, rfl, ?_⟩; have n0_ := Aside0.mk (blk_below (g := gb403) (o := .cells #[.bool a2_0, .bool a2_1] 30 (0, 0)) (by (with_reducible repeat (first | refine blk_drewN ?_ _ | refine blk_drew ?_ | refine blk_alloc ?_ _)); refine blk_far ?_ NB403_426.out _; (with_reducible repeat (first | refine blk_drewN ?_ _ | refine blk_drew ?_ | refine blk_alloc ?_ _)); refine blk_far ?_ NB403_426.out _; (with_reducible repeat (first | refine blk_drewN ?_ _ | refine blk_drew ?_ | refine blk_alloc ?_ _)); refine blk_far ?_ NB403_426.out _; (with_reducible repeat (first | refine blk_drewN ?_ _ | refine blk_drew ?_ | refine blk_alloc ?_ _)); exact BK403.out) hb); have n1_ := Aside0.mk (blk_below (g := gb410) (o := .cells #[.int .i64 t404, .int .i64 t405, .string t406] 23 (0, 0)) (by (with_reducible repeat (first | refine blk_drewN ?_ _ | refine blk_drew ?_ | refine blk_alloc ?_ _)); refine blk_far ?_ NB410_426.out _; (with_reducible repeat (first | refine blk_drewN ?_ _ | refine blk_drew ?_ | refine blk_alloc ?_ _)); refine blk_far ?_ NB410_426.out _; (with_reducible repeat (first | refine blk_drewN ?_ _ | refine blk_drew ?_ | refine blk_alloc ?_ _)); refine blk_far ?_ NB410_426.out _; (with_reducible repeat (first | refine blk_drewN ?_ _ | refine blk_drew ?_ | refine blk_alloc ?_ _)); exact BK410.out) hb); have n2_ := Aside0.mk (blk_below (g := gb411) (o := .cells #[.int .i64 t407, .int .i64 t408, .string t409] 23 (0, 0)) (by (with_reducible repeat (first | refine blk_drewN ?_ _ | refine blk_drew ?_ | refine blk_alloc ?_ _)); refine blk_far ?_ NB411_426.out _; (with_reducible repeat (first | refine blk_drewN ?_ _ | refine blk_drew ?_ | refine blk_alloc ?_ _)); refine blk_far ?_ NB411_426.out _; (with_reducible repeat (first | refine blk_drewN ?_ _ | refine blk_drew ?_ | refine blk_alloc ?_ _)); refine blk_far ?_ NB411_426.out _; (with_reducible repeat (first | refine blk_drewN ?_ _ | refine blk_drew ?_ | refine blk_alloc ?_ _)); exact BK411.out) hb); have n3_ := Aside0.mk (blk_below (g := gb416) (o := .cells #[.int .i64 t412, .int .i64 t413, .string t414] 23 (0, 0)) (by (with_reducible repeat (first | refine blk_drewN ?_ _ | refine blk_drew ?_ | refine blk_alloc ?_ _)); refine blk_far ?_ NB416_426.out _; (with_reducible repeat (first | refine blk_drewN ?_ _ | refine blk_drew ?_ | refine blk_alloc ?_ _)); refine blk_far ?_ NB416_426.out _; (with_reducible repeat (first | refine blk_drewN ?_ _ | refine blk_drew ?_ | refine blk_alloc ?_ _)); refine blk_far ?_ NB416_426.out _; (with_reducible repeat (first | refine blk_drewN ?_ _ | refine blk_drew ?_ | refine blk_alloc ?_ _)); exact BK416.out) hb); have n4_ := Aside0.mk (blk_below (g := gb421) (o := .cells #[.int .i64 t412, .int .i64 t413, .string t414] 23 (0, 0)) (by (with_reducible repeat (first | refine blk_drewN ?_ _ | refine blk_drew ?_ | refine blk_alloc ?_ _)); refine blk_far ?_ NB421_426.out _; (with_reducible repeat (first | refine blk_drewN ?_ _ | refine blk_drew ?_ | refine blk_alloc ?_ _)); refine blk_far ?_ NB421_426.out _; (with_reducible repeat (first | refine blk_drewN ?_ _ | refine blk_drew ?_ | refine blk_alloc ?_ _)); refine blk_far ?_ NB421_426.out _; (with_reducible repeat (first | refine blk_drewN ?_ _ | refine blk_drew ?_ | refine blk_alloc ?_ _)); exact BK421.out) hb); have n5_ := Aside0.mk (blk_below (g := gb426) (o := .cells #[.int .i64 t422, .int .i64 t423, .string t424] 23 (0, 0)) (by (with_reducible repeat (first | refine blk_drewN ?_ _ | refine blk_drew ?_ | refine blk_alloc ?_ _)); refine blk_put (cs := #[.int .i64 t422, .int .i64 t423, .string (⟨#[]⟩ : ByteArray)]) ?_ 2 _ rfl; (with_reducible repeat (first | refine blk_drewN ?_ _ | refine blk_drew ?_ | refine blk_alloc ?_ _)); refine blk_put (cs := #[.int .i64 t422, .int .i64 0, .string (⟨#[]⟩ : ByteArray)]) ?_ 1 _ rfl; (with_reducible repeat (first | refine blk_drewN ?_ _ | refine blk_drew ?_ | refine blk_alloc ?_ _)); refine blk_put (cs := #[.int .i64 0, .int .i64 0, .string (⟨#[]⟩ : ByteArray)]) ?_ 0 _ rfl; (with_reducible repeat (first | refine blk_drewN ?_ _ | refine blk_drew ?_ | refine blk_alloc ?_ _)); exact BK426.out) hb); have n6_ := Aside0.mk (below_step (by repeat (first | (with_reducible first | exact HB.out | apply below_alloc | apply pw_below_drewN | apply below_drew1 | refine below_set ?_ GE403.out | refine below_set ?_ GE410.out | refine below_set ?_ GE411.out | refine below_set ?_ GE416.out | refine below_set ?_ GE421.out | refine below_set ?_ GE426.out) | exact HB.out)) hb); clear BK403; clear BK410; clear BK411; clear BK416; clear BK421; clear BK426; clear HB; have BK403 := n0_; have BK410 := n1_; have BK411 := n2_; have BK416 := n3_; have BK421 := n4_; have BK426 := n5_; have HB := n6_; clear n0_ n1_ n2_ n3_ n4_ n5_ n6_; (try clear hb); (try clear hb2); (try clear hk); (try clear hi); (try clear A9)) | ((with_reducible refine gate_dst (N := 15) rfl ?_); refine box_event ?hg (N := 15) ?hd (cs := #[.int .i64 0, .int .i64 0, .string (⟨#[]⟩ : ByteArray)]) (t := 23) ?hr ?_; (case hd => rfl); (case hg => rfl); (case hr => first | (go_simp; done) | (go_simp; rfl)); intro gb431 hg w57 hbox hb; have n0_ := Aside0.mk (blk_below (g := gb403) (o := .cells #[.bool a2_0, .bool a2_1] 30 (0, 0)) (by (with_reducible repeat (first | refine blk_drewN ?_ _ | refine blk_drew ?_ | refine blk_alloc ?_ _)); exact BK403.out) hb); have n1_ := Aside0.mk (blk_below (g := gb410) (o := .cells #[.int .i64 t404, .int .i64 t405, .string t406] 23 (0, 0)) (by (with_reducible repeat (first | refine blk_drewN ?_ _ | refine blk_drew ?_ | refine blk_alloc ?_ _)); exact BK410.out) hb); have n2_ := Aside0.mk (blk_below (g := gb411) (o := .cells #[.int .i64 t407, .int .i64 t408, .string t409] 23 (0, 0)) (by (with_reducible repeat (first | refine blk_drewN ?_ _ | refine blk_drew ?_ | refine blk_alloc ?_ _)); exact BK411.out) hb); have n3_ := Aside0.mk (blk_below (g := gb416) (o := .cells #[.int .i64 t412, .int .i64 t413, .string t414] 23 (0, 0)) (by (with_reducible repeat (first | refine blk_drewN ?_ _ | refine blk_drew ?_ | refine blk_alloc ?_ _)); exact BK416.out) hb); have n4_ := Aside0.mk (blk_below (g := gb421) (o := .cells #[.int .i64 t412, .int .i64 t413, .string t414] 23 (0, 0)) (by (with_reducible repeat (first | refine blk_drewN ?_ _ | refine blk_drew ?_ | refine blk_alloc ?_ _)); exact BK421.out) hb); have n5_ := Aside0.mk (blk_below (g := gb426) (o := .cells #[.int .i64 t422, .int .i64 t423, .string t424] 23 (0, 0)) (by (with_reducible repeat (first | refine blk_drewN ?_ _ | refine blk_drew ?_ | refine blk_alloc ?_ _)); exact BK426.out) hb); have n6_ := Aside0.mk (below_step (by repeat (first | (with_reducible first | exact HB.out | apply below_alloc | apply pw_below_drewN | apply below_drew1 | refine below_set ?_ GE403.out | refine below_set ?_ GE410.out | refine below_set ?_ GE411.out | refine below_set ?_ GE416.out | refine below_set ?_ GE421.out | refine below_set ?_ GE426.out) | exact HB.out)) hb); have n7_ := Aside0.mk (hbox); have n8_ := Aside0.mk ((by rw [hg]; exact (below_size (by repeat (first | (with_reducible first | exact HB.out | apply below_alloc | apply pw_below_drewN | apply below_drew1 | refine below_set ?_ GE403.out | refine below_set ?_ GE410.out | refine below_set ?_ GE411.out | refine below_set ?_ GE416.out | refine below_set ?_ GE421.out | refine below_set ?_ GE426.out) | exact HB.out))) : w.heap.size ≤ gb431)); have n9_ := Aside0.mk ((by rw [hg]; exact (below_size (by repeat (first | (with_reducible first | exact HB.out | apply below_alloc | apply pw_below_drewN | apply below_drew1 | refine below_set ?_ GE403.out | refine below_set ?_ GE410.out | refine below_set ?_ GE411.out | refine below_set ?_ GE416.out | refine below_set ?_ GE421.out | refine below_set ?_ GE426.out) | exact HB.out))) : w.heap.size ≤ gb431)); have n10_ := Aside0.mk ((by rw [hg]; exact Nat.ne_of_lt (blk_lt (g := gb403) (o := .cells #[.bool a2_0, .bool a2_1] 30 (0, 0)) (by (with_reducible repeat (first | refine blk_drewN ?_ _ | refine blk_drew ?_ | refine blk_alloc ?_ _)); exact BK403.out)) : gb403 ≠ gb431)); have n11_ := Aside0.mk ((by rw [hg]; exact Nat.ne_of_gt (blk_lt (g := gb403) (o := .cells #[.bool a2_0, .bool a2_1] 30 (0, 0)) (by (with_reducible repeat (first | refine blk_drewN ?_ _ | refine blk_drew ?_ | refine blk_alloc ?_ _)); exact BK403.out)) : gb431 ≠ gb403)); have n12_ := Aside0.mk ((by rw [hg]; exact Nat.ne_of_lt (blk_lt (g := gb410) (o := .cells #[.int .i64 t404, .int .i64 t405, .string t406] 23 (0, 0)) (by (with_reducible repeat (first | refine blk_drewN ?_ _ | refine blk_drew ?_ | refine blk_alloc ?_ _)); exact BK410.out)) : gb410 ≠ gb431)); have n13_ := Aside0.mk ((by rw [hg]; exact Nat.ne_of_gt (blk_lt (g := gb410) (o := .cells #[.int .i64 t404, .int .i64 t405, .string t406] 23 (0, 0)) (by (with_reducible repeat (first | refine blk_drewN ?_ _ | refine blk_drew ?_ | refine blk_alloc ?_ _)); exact BK410.out)) : gb431 ≠ gb410)); have n14_ := Aside0.mk ((by rw [hg]; exact Nat.ne_of_lt (blk_lt (g := gb411) (o := .cells #[.int .i64 t407, .int .i64 t408, .string t409] 23 (0, 0)) (by (with_reducible repeat (first | refine blk_drewN ?_ _ | refine blk_drew ?_ | refine blk_alloc ?_ _)); exact BK411.out)) : gb411 ≠ gb431)); have n15_ := Aside0.mk ((by rw [hg]; exact Nat.ne_of_gt (blk_lt (g := gb411) (o := .cells #[.int .i64 t407, .int .i64 t408, .string t409] 23 (0, 0)) (by (with_reducible repeat (first | refine blk_drewN ?_ _ | refine blk_drew ?_ | refine blk_alloc ?_ _)); exact BK411.out)) : gb431 ≠ gb411)); have n16_ := Aside0.mk ((by rw [hg]; exact Nat.ne_of_lt (blk_lt (g := gb416) (o := .cells #[.int .i64 t412, .int .i64 t413, .string t414] 23 (0, 0)) (by (with_reducible repeat (first | refine blk_drewN ?_ _ | refine blk_drew ?_ | refine blk_alloc ?_ _)); exact BK416.out)) : gb416 ≠ gb431)); have n17_ := Aside0.mk ((by rw [hg]; exact Nat.ne_of_gt (blk_lt (g := gb416) (o := .cells #[.int .i64 t412, .int .i64 t413, .string t414] 23 (0, 0)) (by (with_reducible repeat (first | refine blk_drewN ?_ _ | refine blk_drew ?_ | refine blk_alloc ?_ _)); exact BK416.out)) : gb431 ≠ gb416)); have n18_ := Aside0.mk ((by rw [hg]; exact Nat.ne_of_lt (blk_lt (g := gb421) (o := .cells #[.int .i64 t412, .int .i64 t413, .string t414] 23 (0, 0)) (by (with_reducible repeat (first | refine blk_drewN ?_ _ | refine blk_drew ?_ | refine blk_alloc ?_ _)); exact BK421.out)) : gb421 ≠ gb431)); have n19_ := Aside0.mk ((by rw [hg]; exact Nat.ne_of_gt (blk_lt (g := gb421) (o := .cells #[.int .i64 t412, .int .i64 t413, .string t414] 23 (0, 0)) (by (with_reducible repeat (first | refine blk_drewN ?_ _ | refine blk_drew ?_ | refine blk_alloc ?_ _)); exact BK421.out)) : gb431 ≠ gb421)); have n20_ := Aside0.mk ((by rw [hg]; exact Nat.ne_of_lt (blk_lt (g := gb426) (o := .cells #[.int .i64 t422, .int .i64 t423, .string t424] 23 (0, 0)) (by (with_reducible repeat (first | refine blk_drewN ?_ _ | refine blk_drew ?_ | refine blk_alloc ?_ _)); exact BK426.out)) : gb426 ≠ gb431)); have n21_ := Aside0.mk ((by rw [hg]; exact Nat.ne_of_gt (blk_lt (g := gb426) (o := .cells #[.int .i64 t422, .int .i64 t423, .string t424] 23 (0, 0)) (by (with_reducible repeat (first | refine blk_drewN ?_ _ | refine blk_drew ?_ | refine blk_alloc ?_ _)); exact BK426.out)) : gb431 ≠ gb426)); clear BK403; clear BK410; clear BK411; clear BK416; clear BK421; clear BK426; clear HB; have BK403 := n0_; have BK410 := n1_; have BK411 := n2_; have BK416 := n3_; have BK421 := n4_; have BK426 := n5_; have HB := n6_; have BK431 := n7_; have GW431 := n8_; have GE431 := n9_; have NB403_431 := n10_; have NB431_403 := n11_; have NB410_431 := n12_; have NB431_410 := n13_; have NB411_431 := n14_; have NB431_411 := n15_; have NB416_431 := n16_; have NB431_416 := n17_; have NB421_431 := n18_; have NB431_421 := n19_; have NB426_431 := n20_; have NB431_426 := n21_; clear n0_ n1_ n2_ n3_ n4_ n5_ n6_ n7_ n8_ n9_ n10_ n11_ n12_ n13_ n14_ n15_ n16_ n17_ n18_ n19_ n20_ n21_; clear hb hbox hg; have hnb58 := NB431_403.out; have hnc58 := NB403_431.out; have hnb59 := NB431_410.out; have hnc59 := NB410_431.out; have hnb60 := NB431_411.out; have hnc60 := NB411_431.out; have hnb61 := NB431_416.out; have hnc61 := NB416_431.out; have hnb62 := NB431_421.out; have hnc62 := NB421_431.out; have hnb63 := NB431_426.out; have hnc63 := NB426_431.out; have hcz64_0 : w57.cell? ⟨gb431, 0, none⟩ = some (.int .i64 0) := (blk_cell BK431.out 0).trans rfl; have hcz64_1 : w57.cell? ⟨gb431, 1, none⟩ = some (.int .i64 0) := (blk_cell BK431.out 1).trans rfl; have hcz64_2 : w57.cell? ⟨gb431, 2, none⟩ = some (.string (⟨#[]⟩ : ByteArray)) := (blk_cell BK431.out 2).trans rfl; have hfz64_0 := blk_frozen BK431.out 0; have hfz64_1 := blk_frozen BK431.out 1; have hfz64_2 := blk_frozen BK431.out 2))
  (try simp only [Act.put, List.setIfInBounds_toArray, List.set_cons_zero, List.set_cons_succ])
  go_cut [78] (fun v78 wx => v78 = .bool false ∧ Aside0 (wx.heap[gb403]? = some (.cells #[.bool a2_0, .bool a2_1] 30 (0, 0))) ∧ Aside0 (wx.heap[gb410]? = some (.cells #[.int .i64 t404, .int .i64 t405, .string t406] 23 (0, 0))) ∧ Aside0 (wx.heap[gb411]? = some (.cells #[.int .i64 t407, .int .i64 t408, .string t409] 23 (0, 0))) ∧ Aside0 (wx.heap[gb416]? = some (.cells #[.int .i64 t412, .int .i64 t413, .string t414] 23 (0, 0))) ∧ Aside0 (Below w.heap.size w wx))
  case first =>
    have y416_0 := (blk_cell BK416.out 0).trans (show _ = some (.int .i64 t412) from rfl); have y416_1 := (blk_cell BK416.out 1).trans (show _ = some (.int .i64 t413) from rfl); have y416_2 := (blk_cell BK416.out 2).trans (show _ = some (.string t414) from rfl)
    have ne416 := NB416_431.out; have en416 := NB431_416.out
    have y421_0 := (blk_cell BK421.out 0).trans (show _ = some (.int .i64 t412) from rfl); have y421_1 := (blk_cell BK421.out 1).trans (show _ = some (.int .i64 t413) from rfl); have y421_2 := (blk_cell BK421.out 2).trans (show _ = some (.string t414) from rfl)
    have ne421 := NB421_431.out; have en421 := NB431_421.out
    have y426_0 := (blk_cell BK426.out 0).trans (show _ = some (.int .i64 t422) from rfl); have y426_1 := (blk_cell BK426.out 1).trans (show _ = some (.int .i64 t423) from rfl); have y426_2 := (blk_cell BK426.out 2).trans (show _ = some (.string t424) from rfl)
    have ne426 := NB426_431.out; have en426 := NB431_426.out
    go_wp2
    go_meet
    case rel => exact ⟨by first | rfl | (simp; done), ⟨blk_far (blk_far (blk_far BK403.out NB403_431.out _) NB403_431.out _) NB403_431.out _⟩, ⟨blk_far (blk_far (blk_far BK410.out NB410_431.out _) NB410_431.out _) NB410_431.out _⟩, ⟨blk_far (blk_far (blk_far BK411.out NB411_431.out _) NB411_431.out _) NB411_431.out _⟩, ⟨blk_far (blk_far (blk_far BK416.out NB416_431.out _) NB416_431.out _) NB416_431.out _⟩, ⟨below_set (below_set (below_set HB.out GW431.out) GW431.out) GW431.out⟩⟩
  case rest =>
    obtain ⟨rfl, XH, XA, XB, XS, XW⟩ := hcut
    clear BK403 BK410 BK411 BK416 BK421 BK426 BK431 HB
    go_upto_if 80 with fail
    go_cut [] (fun wx => Aside0 (wx.heap[gb403]? = some (.cells #[.bool a2_0, .bool a2_1] 30 (0, 0))) ∧ Aside0 (wx.heap[gb410]? = some (.cells #[.int .i64 t404, .int .i64 t405, .string t406] 23 (0, 0))) ∧ Aside0 (wx.heap[gb411]? = some (.cells #[.int .i64 t407, .int .i64 t408, .string t409] 23 (0, 0))) ∧ Aside0 (Below w.heap.size w wx))
    case first =>
      by_cases e0 : t415 = 0
      · have HS1 := Aside0.mk (HU.out e0).1
        have HS2 := Aside0.mk (HU.out e0).2
        have q0b : (t415 == 0) = true := (by simpa using e0); have q0d : decide (t415 = 0) = true := (by simpa using e0)
        clear HU e0
        have ys0 := (blk_cell XS.out 0).trans (show _ = some (.int .i64 t412) from rfl); have ys1 := (blk_cell XS.out 1).trans (show _ = some (.int .i64 t413) from rfl); have ys2 := (blk_cell XS.out 2).trans (show _ = some (.string t414) from rfl)
        have yb0 := (blk_cell XB.out 0).trans (show _ = some (.int .i64 t407) from rfl); have yb1 := (blk_cell XB.out 1).trans (show _ = some (.int .i64 t408) from rfl); have yb2 := (blk_cell XB.out 2).trans (show _ = some (.string t409) from rfl)
        go_upto_region 10 with (first | (go_at_call 11; refine (arith_Sub.calls k t412 t413 t414 t407 t408 t409 b0 b1 b2 0 _ HS1.out).mono ?_; rintro e w2 ⟨rfl, hb⟩; have HB17 := Aside0.mk (below_step (by repeat (first | exact Below.refl _ _ | apply below_alloc | apply pw_below_drewN | apply below_drew1)) hb : Below wc.heap.size wc w2); clear hb))
        have K17 := Aside0.mk (heap_alloc_new w2 (.cells #[.int .i64 b0, .int .i64 b1, .string b2] 23))
        replace XH := Aside0.mk (blk_alloc (blk_below XH.out HB17.out) (.cells #[.int .i64 b0, .int .i64 b1, .string b2] 23))
        replace XA := Aside0.mk (blk_alloc (blk_below XA.out HB17.out) (.cells #[.int .i64 b0, .int .i64 b1, .string b2] 23))
        replace XB := Aside0.mk (blk_alloc (blk_below XB.out HB17.out) (.cells #[.int .i64 b0, .int .i64 b1, .string b2] 23))
        replace XW := Aside0.mk (below_step (below_step XW.out HB17.out) (below_alloc (Below.refl _ _) (.cells #[.int .i64 b0, .int .i64 b1, .string b2] 23)))
        clear HB17 HS1
        generalize (w2.alloc (.cells #[.int .i64 b0, .int .i64 b1, .string b2] 23)) = w3 at *
        generalize w2.heap.size = p17 at *
        clear ys0 ys1 ys2 yb0 yb1 yb2 XS
        have yk0 := (blk_cell K17.out 0).trans (show _ = some (.int .i64 b0) from rfl); have yk1 := (blk_cell K17.out 1).trans (show _ = some (.int .i64 b1) from rfl); have yk2 := (blk_cell K17.out 2).trans (show _ = some (.string b2) from rfl)
        have ya0 := (blk_cell XA.out 0).trans (show _ = some (.int .i64 t404) from rfl); have ya1 := (blk_cell XA.out 1).trans (show _ = some (.int .i64 t405) from rfl); have ya2 := (blk_cell XA.out 2).trans (show _ = some (.string t406) from rfl)
        go_upto_region 11 with (first | (go_at_call 11; refine (arith_Sub.calls k b0 b1 b2 t404 t405 t406 c0 0 c2 0 _ HS2.out).mono ?_; rintro e w4 ⟨rfl, hb⟩; have HB19 := Aside0.mk (below_step (by repeat (first | exact Below.refl _ _ | apply below_alloc | apply pw_below_drewN | apply below_drew1)) hb : Below w3.heap.size w3 w4); clear hb))
        have K19 := Aside0.mk (heap_alloc_new w4 (.cells #[.int .i64 c0, .int .i64 0, .string c2] 23))
        replace XH := Aside0.mk (blk_alloc (blk_below XH.out HB19.out) (.cells #[.int .i64 c0, .int .i64 0, .string c2] 23))
        replace XA := Aside0.mk (blk_alloc (blk_below XA.out HB19.out) (.cells #[.int .i64 c0, .int .i64 0, .string c2] 23))
        replace XB := Aside0.mk (blk_alloc (blk_below XB.out HB19.out) (.cells #[.int .i64 c0, .int .i64 0, .string c2] 23))
        replace XW := Aside0.mk (below_step (below_step XW.out HB19.out) (below_alloc (Below.refl _ _) (.cells #[.int .i64 c0, .int .i64 0, .string c2] 23)))
        clear HB19 HS2
        generalize (w4.alloc (.cells #[.int .i64 c0, .int .i64 0, .string c2] 23)) = w5 at *
        generalize w4.heap.size = p19 at *
        clear yk0 yk1 yk2 ya0 ya1 ya2
        have yk0 := (blk_cell K19.out 0).trans (show _ = some (.int .i64 c0) from rfl); have yk1 := (blk_cell K19.out 1).trans (show _ = some (.int .i64 0) from rfl); have yk2 := (blk_cell K19.out 2).trans (show _ = some (.string c2) from rfl)
        go_wp2
        go_meet
        case rel => exact ⟨XH, XA, XB, XW⟩
      · have q0b : (t415 == 0) = false := (by simpa using e0); have q0d : decide (t415 = 0) = false := (by simpa using e0)
        clear HU
        go_wp2
        go_meet
        case rel => exact ⟨XH, XA, XB, XW⟩
    case rest =>
      clear XH XA XB XS XW HU
      obtain ⟨XH, XA, XB, XW⟩ := hcut
      have z0 := (blk_cell XH.out 0).trans (show _ = some (.bool a2_0) from rfl)
      have z1 := (blk_cell XH.out 1).trans (show _ = some (.bool a2_1) from rfl)
      go_upto_region 13 with fail
      go_cut [121] (fun v121 wx => ∃ cc : Bool, v121 = .bool cc ∧ Aside0 (cc = true ∨ ¬ (a1 = 0 ∨ a2_0 = true ∨ a2_1 = true ∨ (a0 = -9223372036854775808 ∧ a1 = -1))) ∧ Aside0 (Below wc.heap.size wc wx))
      case first =>
        by_cases y0 : a1 = 0
        · have qyb : (a1 == 0) = true := (by simpa using y0); have qyd : decide (a1 = 0) = true := (by simpa using y0)
          go_wp2
          go_meet
          case rel => exact ⟨true, by first | rfl | (simp; done) | (simp [*]; done), ⟨.inl rfl⟩, ⟨(by repeat (first | exact Below.refl _ _ | apply below_alloc | apply pw_below_drewN | apply below_drew1))⟩⟩
        · have qyb : (a1 == 0) = false := (by simpa using y0); have qyd : decide (a1 = 0) = false := (by simpa using y0)
          have HY := Aside0.mk y0
          clear y0
          cases a2_0
          · cases a2_1
            · by_cases xm : a0 = -9223372036854775808
              · have qxb : (a0 == -9223372036854775808) = true := (by simpa using xm); have qxd : decide (a0 = -9223372036854775808) = true := (by simpa using xm)
                by_cases ym : a1 = -1
                · have qmb : (a1 == -1) = true := (by simpa using ym); have qmd : decide (a1 = -1) = true := (by simpa using ym)
                  go_wp2
                  go_meet
                  case rel => exact ⟨true, by first | rfl | (simp; done) | (simp [*]; done), ⟨.inl rfl⟩, ⟨(by repeat (first | exact Below.refl _ _ | apply below_alloc | apply pw_below_drewN | apply below_drew1))⟩⟩
                · have qmb : (a1 == -1) = false := (by simpa using ym); have qmd : decide (a1 = -1) = false := (by simpa using ym)
                  have HM := Aside0.mk ym
                  clear ym
                  go_wp2
                  go_meet
                  case rel => exact ⟨false, by first | rfl | (simp; done) | (simp [*]; done), ⟨.inr (fun h => h.elim HY.out (fun h => h.elim (fun h => nomatch h) (fun h => h.elim (fun h => nomatch h) (fun h => HM.out h.2))))⟩, ⟨(by repeat (first | exact Below.refl _ _ | apply below_alloc | apply pw_below_drewN | apply below_drew1))⟩⟩
              · have qxb : (a0 == -9223372036854775808) = false := (by simpa using xm); have qxd : decide (a0 = -9223372036854775808) = false := (by simpa using xm)
                have HM := Aside0.mk xm
                clear xm
                go_wp2
                go_meet
                case rel => exact ⟨false, by first | rfl | (simp; done) | (simp [*]; done), ⟨.inr (fun h => h.elim HY.out (fun h => h.elim (fun h => nomatch h) (fun h => h.elim (fun h => nomatch h) (fun h => HM.out h.1))))⟩, ⟨(by repeat (first | exact Below.refl _ _ | apply below_alloc | apply pw_below_drewN | apply below_drew1))⟩⟩
            · skip
              go_wp2
              go_meet
              case rel => exact ⟨true, by first | rfl | (simp; done) | (simp [*]; done), ⟨.inl rfl⟩, ⟨(by repeat (first | exact Below.refl _ _ | apply below_alloc | apply pw_below_drewN | apply below_drew1))⟩⟩
          · skip
            go_wp2
            go_meet
            case rel => exact ⟨true, by first | rfl | (simp; done) | (simp [*]; done), ⟨.inl rfl⟩, ⟨(by repeat (first | exact Below.refl _ _ | apply below_alloc | apply pw_below_drewN | apply below_drew1))⟩⟩
      case rest =>
        obtain ⟨cc, rfl, HCC, HBW⟩ := hcut
        cases cc
        · obtain ⟨hd1, hd2, hd3, hd4, hd5⟩ := HD.out (HCC.out.resolve_left (by simp))
          have HD1 := Aside0.mk hd1; have HD2 := Aside0.mk hd2; have HD3 := Aside0.mk hd3; have HD4 := Aside0.mk hd4; have HD5 := Aside0.mk hd5
          clear hd1 hd2 hd3 hd4 hd5 HD HCC z0 z1
          replace XA := Aside0.mk (blk_below XA.out HBW.out)
          replace XB := Aside0.mk (blk_below XB.out HBW.out)
          replace XW := Aside0.mk (below_step XW.out HBW.out)
          clear XH HBW
          have ya0 := (blk_cell XA.out 0).trans (show _ = some (.int .i64 t404) from rfl); have ya1 := (blk_cell XA.out 1).trans (show _ = some (.int .i64 t405) from rfl); have ya2 := (blk_cell XA.out 2).trans (show _ = some (.string t406) from rfl)
          have yb0 := (blk_cell XB.out 0).trans (show _ = some (.int .i64 t407) from rfl); have yb1 := (blk_cell XB.out 1).trans (show _ = some (.int .i64 t408) from rfl); have yb2 := (blk_cell XB.out 2).trans (show _ = some (.string t409) from rfl)
          go_upto_region 16 with (first | (go_at_call 9; refine (arith_Div.calls k t404 t405 t406 t407 t408 t409 d0 d1 d2 0 _ HD1.out).mono ?_; rintro e w2 ⟨rfl, hb⟩; have HB21 := Aside0.mk (below_step (by repeat (first | exact Below.refl _ _ | apply below_alloc | apply pw_below_drewN | apply below_drew1)) hb : Below wc.heap.size wc w2); clear hb))
          have K21 := Aside0.mk (heap_alloc_new w2 (.cells #[.int .i64 d0, .int .i64 d1, .string d2] 23))
          replace XA := Aside0.mk (blk_alloc (blk_below XA.out HB21.out) (.cells #[.int .i64 d0, .int .i64 d1, .string d2] 23))
          replace XB := Aside0.mk (blk_alloc (blk_below XB.out HB21.out) (.cells #[.int .i64 d0, .int .i64 d1, .string d2] 23))
          replace XW := Aside0.mk (below_step (below_step XW.out HB21.out) (below_alloc (Below.refl _ _) (.cells #[.int .i64 d0, .int .i64 d1, .string d2] 23)))
          clear HB21 HD1
          generalize (w2.alloc (.cells #[.int .i64 d0, .int .i64 d1, .string d2] 23)) = w3 at *
          generalize w2.heap.size = p21 at *
          clear ya0 ya1 ya2 yb0 yb1 yb2
          have ya0 := (blk_cell XA.out 0).trans (show _ = some (.int .i64 t404) from rfl); have ya1 := (blk_cell XA.out 1).trans (show _ = some (.int .i64 t405) from rfl); have ya2 := (blk_cell XA.out 2).trans (show _ = some (.string t406) from rfl)
          have yb0 := (blk_cell XB.out 0).trans (show _ = some (.int .i64 t407) from rfl); have yb1 := (blk_cell XB.out 1).trans (show _ = some (.int .i64 t408) from rfl); have yb2 := (blk_cell XB.out 2).trans (show _ = some (.string t409) from rfl)
          go_upto_region 17 with (first | (go_at_call 14; refine (arith_Mod.calls k t404 t405 t406 t407 t408 t409 r0 r1 r2 0 _ HD2.out).mono ?_; rintro e w4 ⟨rfl, hb⟩; have HB23 := Aside0.mk (below_step (by repeat (first | exact Below.refl _ _ | apply below_alloc | apply pw_below_drewN | apply below_drew1)) hb : Below w3.heap.size w3 w4); clear hb))
          have K23 := Aside0.mk (heap_alloc_new w4 (.cells #[.int .i64 r0, .int .i64 r1, .string r2] 23))
          replace XA := Aside0.mk (blk_alloc (blk_below XA.out HB23.out) (.cells #[.int .i64 r0, .int .i64 r1, .string r2] 23))
          replace XB := Aside0.mk (blk_alloc (blk_below XB.out HB23.out) (.cells #[.int .i64 r0, .int .i64 r1, .string r2] 23))
          replace K21 := Aside0.mk (blk_alloc (blk_below K21.out HB23.out) (.cells #[.int .i64 r0, .int .i64 r1, .string r2] 23))
          replace XW := Aside0.mk (below_step (below_step XW.out HB23.out) (below_alloc (Below.refl _ _) (.cells #[.int .i64 r0, .int .i64 r1, .string r2] 23)))
          clear HB23 HD2
          generalize (w4.alloc (.cells #[.int .i64 r0, .int .i64 r1, .string r2] 23)) = w5 at *
          generalize w4.heap.size = p23 at *
          clear ya0 ya1 ya2 yb0 yb1 yb2
          have ya0 := (blk_cell K21.out 0).trans (show _ = some (.int .i64 d0) from rfl); have ya1 := (blk_cell K21.out 1).trans (show _ = some (.int .i64 d1) from rfl); have ya2 := (blk_cell K21.out 2).trans (show _ = some (.string d2) from rfl)
          have yb0 := (blk_cell XB.out 0).trans (show _ = some (.int .i64 t407) from rfl); have yb1 := (blk_cell XB.out 1).trans (show _ = some (.int .i64 t408) from rfl); have yb2 := (blk_cell XB.out 2).trans (show _ = some (.string t409) from rfl)
          go_upto_region 18 with (first | (go_at_call 8; refine (arith_Mul.calls k d0 d1 d2 t407 t408 t409 m0 m1 m2 0 _ HD3.out).mono ?_; rintro e w6 ⟨rfl, hb⟩; have HB25 := Aside0.mk (below_step (by repeat (first | exact Below.refl _ _ | apply below_alloc | apply pw_below_drewN | apply below_drew1)) hb : Below w5.heap.size w5 w6); clear hb))
          have K25 := Aside0.mk (heap_alloc_new w6 (.cells #[.int .i64 m0, .int .i64 m1, .string m2] 23))
          replace XA := Aside0.mk (blk_alloc (blk_below XA.out HB25.out) (.cells #[.int .i64 m0, .int .i64 m1, .string m2] 23))
          replace K23 := Aside0.mk (blk_alloc (blk_below K23.out HB25.out) (.cells #[.int .i64 m0, .int .i64 m1, .string m2] 23))
          replace XW := Aside0.mk (below_step (below_step XW.out HB25.out) (below_alloc (Below.refl _ _) (.cells #[.int .i64 m0, .int .i64 m1, .string m2] 23)))
          clear HB25 HD3
          generalize (w6.alloc (.cells #[.int .i64 m0, .int .i64 m1, .string m2] 23)) = w7 at *
          generalize w6.heap.size = p25 at *
          clear ya0 ya1 ya2 yb0 yb1 yb2 K21 XB
          have ya0 := (blk_cell K25.out 0).trans (show _ = some (.int .i64 m0) from rfl); have ya1 := (blk_cell K25.out 1).trans (show _ = some (.int .i64 m1) from rfl); have ya2 := (blk_cell K25.out 2).trans (show _ = some (.string m2) from rfl)
          have yb0 := (blk_cell K23.out 0).trans (show _ = some (.int .i64 r0) from rfl); have yb1 := (blk_cell K23.out 1).trans (show _ = some (.int .i64 r1) from rfl); have yb2 := (blk_cell K23.out 2).trans (show _ = some (.string r2) from rfl)
          go_upto_region 19 with (first | (go_at_call 10; refine (arith_Add.calls k m0 m1 m2 r0 r1 r2 t404 t405 t406 0 _ HD4.out).mono ?_; rintro e w8 ⟨rfl, hb⟩; have HB27 := Aside0.mk (below_step (by repeat (first | exact Below.refl _ _ | apply below_alloc | apply pw_below_drewN | apply below_drew1)) hb : Below w7.heap.size w7 w8); clear hb))
          have K27 := Aside0.mk (heap_alloc_new w8 (.cells #[.int .i64 t404, .int .i64 t405, .string t406] 23))
          replace XA := Aside0.mk (blk_alloc (blk_below XA.out HB27.out) (.cells #[.int .i64 t404, .int .i64 t405, .string t406] 23))
          replace K23 := Aside0.mk (blk_alloc (blk_below K23.out HB27.out) (.cells #[.int .i64 t404, .int .i64 t405, .string t406] 23))
          replace XW := Aside0.mk (below_step (below_step XW.out HB27.out) (below_alloc (Below.refl _ _) (.cells #[.int .i64 t404, .int .i64 t405, .string t406] 23)))
          clear HB27 HD4
          generalize (w8.alloc (.cells #[.int .i64 t404, .int .i64 t405, .string t406] 23)) = w9 at *
          generalize w8.heap.size = p27 at *
          clear ya0 ya1 ya2 yb0 yb1 yb2 K25
          have ya0 := (blk_cell K27.out 0).trans (show _ = some (.int .i64 t404) from rfl); have ya1 := (blk_cell K27.out 1).trans (show _ = some (.int .i64 t405) from rfl); have ya2 := (blk_cell K27.out 2).trans (show _ = some (.string t406) from rfl)
          have yb0 := (blk_cell XA.out 0).trans (show _ = some (.int .i64 t404) from rfl); have yb1 := (blk_cell XA.out 1).trans (show _ = some (.int .i64 t405) from rfl); have yb2 := (blk_cell XA.out 2).trans (show _ = some (.string t406) from rfl)
          have yc0 := (blk_cell K23.out 0).trans (show _ = some (.int .i64 r0) from rfl); have yc1 := (blk_cell K23.out 1).trans (show _ = some (.int .i64 r1) from rfl); have yc2 := (blk_cell K23.out 2).trans (show _ = some (.string r2) from rfl)
          by_cases r0z : r1 = 0
          · have qrb : (r1 == 0) = true := (by simpa using r0z); have qrd : decide (r1 = 0) = true := (by simpa using r0z)
            clear HD5 r0z
            go_wp2_with (first | (go_at_call 12; refine (marqueelaw02_sure.calls k true _ HSU.out).mono ?_; rintro e w10 ⟨rfl, hb⟩; have HB10 := Aside0.mk (below_step (below_step XW.out (by repeat (first | exact Below.refl _ _ | apply below_alloc | apply pw_below_drewN | apply below_drew1))) hb); clear hb HSU))
            go_ret
            exact ⟨by first | rfl | (simp; done), HB10.out⟩
          · have hq5 := HD5.out.resolve_left r0z
            have qrb : (r1 == 0) = false := (by simpa using r0z); have qrd : decide (r1 = 0) = false := (by simpa using r0z)
            clear HD5 r0z
            go_wp2_with (first | (go_at_call 12; refine (marqueelaw02_sure.calls k true _ HSU.out).mono ?_; rintro e w10 ⟨rfl, hb⟩; have HB10 := Aside0.mk (below_step (below_step XW.out (by repeat (first | exact Below.refl _ _ | apply below_alloc | apply pw_below_drewN | apply below_drew1))) hb); clear hb HSU))
            go_ret
            exact ⟨by first | rfl | (simp; done) | (simp [*]; done), HB10.out⟩
        · clear HD HCC z0 z1
          replace XW := Aside0.mk (below_step XW.out HBW.out)
          go_wp2_with (first | (go_at_call 12; refine (marqueelaw02_sure.calls k true _ HSU.out).mono ?_; rintro e w10 ⟨rfl, hb⟩; have HB10 := Aside0.mk (below_step (below_step XW.out (by repeat (first | exact Below.refl _ _ | apply below_alloc | apply pw_below_drewN | apply below_drew1))) hb); clear hb HSU))
          go_ret
          exact ⟨by first | rfl | (simp; done), HB10.out⟩
end Go.Proofs.Ytnfolhfnkbidgaa.Print
