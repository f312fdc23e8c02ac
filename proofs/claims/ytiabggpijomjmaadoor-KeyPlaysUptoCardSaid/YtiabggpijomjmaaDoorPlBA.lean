import Derived.Test.YtiabggpijomjmaaDoorPureKeyBytes
namespace Go.Proofs.YtiabggpijomjmaaDoor
open Go.RowKit Print Go.Proofs.YtiabggpijomjmaaDoorW.PrintWords Go.Proofs.YtiabggpijomjmaaDoorW.PrintLast Go.Proofs.YtiabggpijomjmaaDoorW.PrintMore
def firstB (s : ByteArray) : Nat → Nat → List Int
  | _, 0 => []
  | o, d + 1 => bt s (o : Int) :: firstB s (o + 1) d
theorem bytesOf_step (s : ByteArray) (o : Nat) (h : o < s.size) : bytesOf (s.extract o s.size) = bt s (o : Int) :: bytesOf (s.extract (o + 1) s.size) := by
  have hl := data_length s
  unfold bytesOf
  rw [ext_list, ext_list, bt_byte s o h, List.drop_eq_getElem_cons (by omega)]
  simp
theorem bytesOf_first (s : ByteArray) : ∀ d o, o + d ≤ s.size → bytesOf (s.extract o s.size) = firstB s o d ++ bytesOf (s.extract (o + d) s.size)
  | 0, o, _ => by rw [firstB]; rfl
  | d + 1, o, h => by
    rw [bytesOf_step s o (by omega), firstB, bytesOf_first s d (o + 1) (by omega), show o + 1 + d = o + (d + 1) by omega]; rfl
theorem ext_zero (s : ByteArray) : s.extract 0 s.size = s := by
  refine ByteArray.ext (Array.ext' ?_)
  rw [ext_list]; rfl
theorem fix_first8 (s : ByteArray) (h : 9 ≤ s.size) : fixF (lowN s 1 8) 8 0 = firstB s 1 8 := by
  have h1 := bt_in s 1 (by omega)
  have h2 := bt_in s 2 (by omega)
  have h3 := bt_in s 3 (by omega)
  have h4 := bt_in s 4 (by omega)
  have h5 := bt_in s 5 (by omega)
  have h6 := bt_in s 6 (by omega)
  have h7 := bt_in s 7 (by omega)
  have h8 := bt_in s 8 (by omega)
  simp only [fixF, firstB, lowN, Nat.reduceAdd, Int.reducePow, List.cons.injEq, and_true]
  omega
theorem fix_first2 (s : ByteArray) (h : 3 ≤ s.size) : fixF (lowN s 1 2) 2 0 = firstB s 1 2 := by
  have h1 := bt_in s 1 (by omega)
  have h2 := bt_in s 2 (by omega)
  simp only [fixF, firstB, lowN, Nat.reduceAdd, Int.reducePow, List.cons.injEq, and_true]
  omega
end Go.Proofs.YtiabggpijomjmaaDoor
namespace Go.Proofs.YtiabggpijomjmaaDoor
open Go.RowKit Print Go.Proofs.YtiabggpijomjmaaDoorW.PrintWords Go.Proofs.YtiabggpijomjmaaDoorW.PrintLast Go.Proofs.YtiabggpijomjmaaDoorW.PrintMore
theorem bytesOf_cut (s : ByteArray) (a n : Nat) (h : a + n ≤ s.size) : bytesOf (s.extract a s.size) = bytesOf (s.extract a (a + n)) ++ bytesOf (s.extract (a + n) s.size) := by
  have e : (s.extract a (a + n)).data.toList = (s.data.toList.drop a).take n := by
    rw [← ext_cut s a n h, ByteArray.data_extract, Array.toList_extract, ext_list]
    simp
  unfold bytesOf
  rw [e, ext_list, ext_list, ← List.map_append, ← List.drop_drop, List.take_append_drop]
theorem enc_raw (s : ByteArray) (h1 : 1 ≤ s.size) (x : S53) (n : Nat) (h : raw1 s = some (x, n)) : bytesOf s = encB x ++ bytesOf (s.extract n s.size) := by
  have hb := bt_in s 0 (by omega)
  have e0 : ((0 : Nat) : Int) = 0 := rfl
  rw [e0] at hb
  have ez := ext_zero s
  unfold raw1 at h
  by_cases k0 : bt s 0 = 0
  · rw [if_pos k0] at h; cases h
    have := bytesOf_first s 1 0 (by omega)
    rw [ez] at this
    rw [this]
    simp [firstB, encB, k0]
  · rw [if_neg k0] at h
    by_cases k1 : bt s 0 = 1
    · rw [if_pos k1] at h
      by_cases h2 : 2 ≤ s.size
      · rw [if_pos h2] at h; cases h
        have := bytesOf_first s 2 0 (by omega)
        have hb1 := bt_in s 1 (by omega)
        have e1 : ((1 : Nat) : Int) = 1 := rfl
        rw [e1] at hb1
        rw [ez] at this
        rw [this]
        simp [firstB, encB, k1]
        omega
      · rw [if_neg h2] at h; cases h
    · rw [if_neg k1] at h
      by_cases k23 : bt s 0 = 2 ∨ bt s 0 = 3
      · rw [if_pos k23] at h
        by_cases h9 : 9 ≤ s.size
        · rw [if_pos h9] at h; cases h
          have := bytesOf_first s 8 1 (by omega)
          have hs := bytesOf_step s 0 (by omega)
          have hn := lowN_in s 1 8 (by omega) (by omega)
          simp only [Int.reducePow] at hn
          have ew : IntKind.u64.wrap (wrap64 (lowN s 1 8)) = lowN s 1 8 := by rw [IntKind.wrap_u64]; unfold wrap64; omega
          rw [ez] at hs
          rw [hs, this, ← fix_first8 s h9]
          unfold encB
          rw [if_neg k1, if_pos k23, ew, show bt s 0 % 256 = bt s 0 by omega]
          rfl
        · rw [if_neg h9] at h; cases h
      · rw [if_neg k23] at h
        by_cases k4 : bt s 0 = 4
        · rw [if_pos k4] at h
          by_cases h3 : 3 ≤ s.size
          · rw [if_pos h3] at h
            by_cases h5 : 3 + (lowN s 1 2).toNat ≤ s.size
            · rw [if_pos h5] at h; cases h
              have := bytesOf_first s 2 1 (by omega)
              have hs := bytesOf_step s 0 (by omega)
              have hn := lowN_in s 1 2 (by omega) (by omega)
              have hc := bytesOf_cut s 3 (lowN s 1 2).toNat h5
              have hz : ((s.extract 3 (3 + (lowN s 1 2).toNat)).size : Int) = lowN s 1 2 := by rw [ByteArray.size_extract]; omega
              rw [ez] at hs
              rw [hs, this, ← fix_first2 s h3, show (1 + 2 : Nat) = 3 from rfl, hc]
              unfold encB
              rw [if_neg (show ¬ (4 : Int) = 1 by decide), if_neg (show ¬ ((4 : Int) = 2 ∨ (4 : Int) = 3) by decide), if_pos rfl, hz, e0, k4]
              simp
            · rw [if_neg h5] at h; cases h
          · rw [if_neg h3] at h; cases h
        · rw [if_neg k4] at h; cases h
def allB (l : List S53) : List Int := (l.map encB).flatten
theorem encFrom_all (l : List S53) (ho : ∀ x ∈ l, okV x.f0 x.f1 x.f2 = true) : ∀ d i, i + d = l.length → encFrom l d i = some (allB (l.drop i))
  | 0, i, h => by rw [encFrom, List.drop_eq_nil_of_le (by omega)]; rfl
  | d + 1, i, h => by
    have hg : rd_T53 l (i : Int) = l[i]'(by omega) := by
      unfold rd_T53
      rw [Int.toNat_natCast, List.getD_eq_getElem?_getD, List.getElem?_eq_getElem (by omega)]; rfl
    rw [encFrom, hg, if_pos (ho _ (List.getElem_mem _)), encFrom_all l ho d (i + 1) (by omega), List.drop_eq_getElem_cons (show i < l.length by omega)]
    rfl
end Go.Proofs.YtiabggpijomjmaaDoor
namespace Go.Proofs.YtiabggpijomjmaaDoor
open Go.RowKit Print Go.Proofs.YtiabggpijomjmaaDoorW.PrintWords Go.Proofs.YtiabggpijomjmaaDoorW.PrintLast Go.Proofs.YtiabggpijomjmaaDoorW.PrintMore
theorem dec_back : ∀ d (s : ByteArray) (acc r : List S53), s.size ≤ d → decFrom d s acc = (r, 0) → ∃ l, r = acc ++ l ∧ (∀ x ∈ l, okV x.f0 x.f1 x.f2 = true) ∧ bytesOf s = allB l
  | 0, s, acc, r, h, he => by
    rw [decFrom] at he
    cases he
    refine ⟨[], by simp, by simp, ?_⟩
    exact List.eq_nil_of_length_eq_zero (by rw [bytesOf_length]; omega)
  | d + 1, s, acc, r, h, he => by
    rw [decFrom] at he
    by_cases hz : s.size = 0
    · rw [if_pos hz] at he
      cases he
      refine ⟨[], by simp, by simp, ?_⟩
      exact List.eq_nil_of_length_eq_zero (by rw [bytesOf_length]; omega)
    · rw [if_neg hz] at he
      have hi := raw1_in s (by omega)
      have hq := enc_raw s (by omega)
      cases hc : raw1 s with
      | none => rw [hc] at he; cases he
      | some p =>
        obtain ⟨x, n⟩ := p
        rw [hc] at he
        obtain ⟨i1, i2, i3⟩ := hi x n hc
        replace he : (if okV x.f0 x.f1 x.f2 = true then decFrom d (s.extract n s.size) (acc ++ [x]) else ([], 31)) = (r, 0) := he
        by_cases ho : okV x.f0 x.f1 x.f2 = true
        · rw [if_pos ho] at he
          have hz2 := ext_size s n
          obtain ⟨l, h1, h2, h3⟩ := dec_back d (s.extract n s.size) (acc ++ [x]) r (by omega) he
          refine ⟨x :: l, by rw [h1, List.append_assoc]; rfl, ?_, ?_⟩
          · intro y hy
            rcases List.mem_cons.mp hy with rfl | hy
            · exact ho
            · exact h2 y hy
          · rw [hq x n hc, h3]; rfl
        · rw [if_neg ho] at he; cases he
theorem bytesOf_inj {a b : ByteArray} (h : bytesOf a = bytesOf b) : a = b := by
  have h' := congrArg (List.map (fun n : Int => UInt8.ofNat n.toNat)) h
  unfold bytesOf at h'
  rw [List.map_map, List.map_map] at h'
  refine ByteArray.ext (Array.ext' ?_)
  have e : ((fun n : Int => UInt8.ofNat n.toNat) ∘ fun b : UInt8 => (b.toNat : Int)) = id := by
    funext b
    show UInt8.ofNat ((b.toNat : Int).toNat) = b
    rw [Int.toNat_natCast]
    exact UInt8.ofNat_toNat
  rwa [e, List.map_id, List.map_id] at h'
theorem bt_list (s : ByteArray) (xs : List Int) (h : bytesOf s = xs) (i : Nat) : bt s (i : Int) = xs.getD i 0 := by
  rw [← rd_bytesOf, h]
  rfl
theorem empty_of (s : ByteArray) (h : s.toList.isEmpty = true) : s = ⟨#[]⟩ := by
  have hz := (nil_iff s).mp (by simpa using h)
  refine bytesOf_inj ?_
  have : bytesOf s = [] := List.eq_nil_of_length_eq_zero (by rw [bytesOf_length]; exact hz)
  rw [this]; rfl
end Go.Proofs.YtiabggpijomjmaaDoor
namespace Go.Proofs.YtiabggpijomjmaaDoor
open Go.RowKit Print Go.Proofs.YtiabggpijomjmaaDoorW.PrintWords Go.Proofs.YtiabggpijomjmaaDoorW.PrintLast Go.Proofs.YtiabggpijomjmaaDoorW.PrintMore
def in64 (x : S53) : Prop := -9223372036854775808 ≤ x.f1 ∧ x.f1 < 9223372036854775808
theorem low_fix8 (s : ByteArray) (u : Int) (h0 : 0 ≤ u) (h1 : u < 18446744073709551616) (k : Int) (rest : List Int) (h : bytesOf s = k :: (fixF u 8 0 ++ rest)) : lowN s 1 8 = u := by
  have b1 := bt_list s _ h 1
  have b2 := bt_list s _ h 2
  have b3 := bt_list s _ h 3
  have b4 := bt_list s _ h 4
  have b5 := bt_list s _ h 5
  have b6 := bt_list s _ h 6
  have b7 := bt_list s _ h 7
  have b8 := bt_list s _ h 8
  simp only [fixF, List.cons_append, List.nil_append, List.getD_cons_succ, List.getD_cons_zero, Nat.reduceAdd, Int.reducePow] at b1 b2 b3 b4 b5 b6 b7 b8
  simp only [lowN, Nat.reduceAdd, Int.reducePow]
  rw [b1, b2, b3, b4, b5, b6, b7, b8]
  omega
theorem low_fix2 (s : ByteArray) (u : Int) (h0 : 0 ≤ u) (h1 : u < 65536) (k : Int) (rest : List Int) (h : bytesOf s = k :: (fixF u 2 0 ++ rest)) : lowN s 1 2 = u := by
  have b1 := bt_list s _ h 1
  have b2 := bt_list s _ h 2
  simp only [fixF, List.cons_append, List.nil_append, List.getD_cons_succ, List.getD_cons_zero, Nat.reduceAdd, Int.reducePow] at b1 b2
  simp only [lowN, Nat.reduceAdd, Int.reducePow]
  rw [b1, b2]
  omega
theorem raw_enc (s : ByteArray) (x : S53) (hr : in64 x) (ho : okV x.f0 x.f1 x.f2 = true) (rest : List Int) (h : bytesOf s = encB x ++ rest) : raw1 s = some (x, (encB x).length) := by
  obtain ⟨a, b, t⟩ := x
  unfold in64 at hr
  simp only at hr ho
  have hl := bytesOf_length s
  have b0 : bt s 0 = (encB ⟨a, b, t⟩ ++ rest).getD 0 0 := bt_list s _ h 0
  rw [h, List.length_append] at hl
  unfold okV at ho
  by_cases k0 : a = 0
  · subst k0
    rw [if_pos rfl] at ho
    simp only [Bool.and_eq_true, decide_eq_true_eq] at ho
    obtain ⟨rfl, ht⟩ := ho
    obtain rfl := empty_of t ht
    have e : bt s 0 = 0 := b0
    unfold raw1
    rw [if_pos e]; rfl
  · rw [if_neg k0] at ho
    by_cases k1 : a = 1
    · subst k1
      rw [if_pos rfl] at ho
      simp only [Bool.and_eq_true, Bool.or_eq_true, decide_eq_true_eq] at ho
      obtain ⟨ht, hb⟩ := ho
      obtain rfl := empty_of t ht
      have e : bt s 0 = 1 := b0
      have b1 : bt s 1 = b % 256 := bt_list s _ h 1
      have hlen : (encB ⟨1, b, ⟨#[]⟩⟩).length = 2 := rfl
      unfold raw1
      rw [if_neg (by omega), if_pos e, if_pos (by omega), hlen, b1, show b % 256 = b by omega]
    · rw [if_neg k1] at ho
      by_cases k23 : a = 2 ∨ a = 3
      · have ht : t.toList.isEmpty = true := by
          rcases k23 with rfl | rfl
          · exact ho
          · exact ho
        obtain rfl := empty_of t ht
        have ee : encB ⟨a, b, ⟨#[]⟩⟩ = a % 256 :: fixF (IntKind.u64.wrap b) 8 0 := by unfold encB; rw [if_neg k1, if_pos k23]
        rw [ee] at h b0 hl ⊢
        have e : bt s 0 = a := by rw [b0]; show a % 256 = a; omega
        rw [List.length_cons, fixF_len] at hl ⊢
        have hu := u64_in b
        have el := low_fix8 s _ hu.1 hu.2 _ rest (by rw [h]; rfl)
        unfold raw1
        rw [if_neg (by omega), if_neg (by omega), if_pos (by omega), if_pos (by omega), e, el, show wrap64 (IntKind.u64.wrap b) = b by rw [IntKind.wrap_u64]; unfold wrap64; omega]
      · rw [if_neg (by omega), if_neg (by omega)] at ho
        by_cases k4 : a = 4
        · subst k4
          rw [if_pos rfl] at ho
          simp only [Bool.and_eq_true, decide_eq_true_eq] at ho
          obtain ⟨⟨rfl, hz⟩, hv⟩ := ho
          have ee : encB ⟨4, 0, t⟩ = 4 :: (fixF (t.size : Int) 2 0 ++ bytesOf t) := by unfold encB; rw [if_neg (show ¬ (4 : Int) = 1 by decide), if_neg (show ¬ ((4 : Int) = 2 ∨ (4 : Int) = 3) by decide), if_pos rfl]; rfl
          rw [ee] at h b0 hl ⊢
          have e : bt s 0 = 4 := b0
          rw [List.length_cons, List.length_append, fixF_len, bytesOf_length] at hl ⊢
          have el := low_fix2 s (t.size : Int) (by omega) (by omega) 4 (bytesOf t ++ rest) (by rw [h]; simp)
          have hm : (lowN s 1 2).toNat = t.size := by rw [el]; exact Int.toNat_natCast _
          have hx : s.extract 3 (3 + t.size) = t := by
            refine bytesOf_inj ?_
            have c1 := bytesOf_first s 3 0 (by omega)
            rw [ext_zero, h] at c1
            have c2 := bytesOf_cut s 3 t.size (by omega)
            rw [show 0 + 3 = 3 from rfl, c2] at c1
            have c3 := congrArg (List.drop 3) c1
            have c4 := congrArg (List.take t.size) c3
            have l1 : (bytesOf (s.extract 3 (3 + t.size))).length = t.size := by rw [bytesOf_length, ByteArray.size_extract]; omega
            have l2 := bytesOf_length t
            simp only [fixF, firstB, List.cons_append, List.nil_append, List.drop_succ_cons, List.drop_zero] at c4
            rw [List.take_append_of_le_length (by omega), List.take_append_of_le_length (by omega), List.take_of_length_le (by omega), List.take_of_length_le (by omega)] at c4
            exact c4.symm
          unfold raw1
          rw [if_neg (by omega), if_neg (by omega), if_neg (by omega), if_pos e, if_pos (by omega), hm, if_pos (by omega), hx, show 3 + t.size = 2 + t.size + 1 by omega]
        · rw [if_neg k4] at ho; cases ho
end Go.Proofs.YtiabggpijomjmaaDoor
namespace Go.Proofs.YtiabggpijomjmaaDoor
open Go.RowKit Print Go.Proofs.YtiabggpijomjmaaDoorW.PrintWords Go.Proofs.YtiabggpijomjmaaDoorW.PrintLast Go.Proofs.YtiabggpijomjmaaDoorW.PrintMore
theorem bytesOf_drop (s : ByteArray) (n : Nat) : bytesOf (s.extract n s.size) = (bytesOf s).drop n := by
  unfold bytesOf
  rw [ext_list, List.map_drop]
theorem encB_pos (x : S53) : 1 ≤ (encB x).length := by unfold encB; simp
theorem dec_enc : ∀ (l : List S53) (d : Nat) (s : ByteArray) (acc : List S53), s.size ≤ d → (∀ x ∈ l, okV x.f0 x.f1 x.f2 = true) → (∀ x ∈ l, in64 x) → bytesOf s = allB l → decFrom d s acc = (acc ++ l, 0)
  | [], 0, s, acc, _, _, _, _ => by rw [decFrom, List.append_nil]
  | [], d + 1, s, acc, h, ho, hr, hb => by
    have hz : s.size = 0 := by rw [← bytesOf_length, hb]; rfl
    rw [decFrom, if_pos hz, List.append_nil]
  | x :: l, 0, s, acc, h, ho, hr, hb => by
    have hl := bytesOf_length s
    have hp := encB_pos x
    rw [hb] at hl
    unfold allB at hl
    rw [List.map_cons, List.flatten_cons, List.length_append] at hl
    omega
  | x :: l, d + 1, s, acc, h, ho, hr, hb => by
    have hl := bytesOf_length s
    have hp := encB_pos x
    have hb' : bytesOf s = encB x ++ allB l := hb
    rw [hb', List.length_append] at hl
    have hx := raw_enc s x (hr x (List.mem_cons_self ..)) (ho x (List.mem_cons_self ..)) (allB l) hb'
    have hz2 := ext_size s (encB x).length
    have IH := dec_enc l d (s.extract (encB x).length s.size) (acc ++ [x]) (by omega) (fun y hy => ho y (List.mem_cons_of_mem _ hy)) (fun y hy => hr y (List.mem_cons_of_mem _ hy)) (by rw [bytesOf_drop, hb', List.drop_left])
    rw [decFrom, if_neg (by omega), hx]
    show (if okV x.f0 x.f1 x.f2 = true then decFrom d (s.extract (encB x).length s.size) (acc ++ [x]) else ([], 31)) = _
    rw [if_pos (ho x (List.mem_cons_self ..)), IH, List.append_assoc]
    rfl
theorem bytesOf_in (s : ByteArray) : ∀ n ∈ bytesOf s, 0 ≤ n ∧ n < 256 := by
  intro n hn
  unfold bytesOf at hn
  obtain ⟨b, _, rfl⟩ := List.mem_map.mp hn
  have := b.toNat_lt
  omega
theorem fixF_in (u : Int) : ∀ d i, ∀ n ∈ fixF u d i, 0 ≤ n ∧ n < 256
  | 0, _, n, h => by cases h
  | d + 1, i, n, h => by
    rw [fixF] at h
    rcases List.mem_cons.mp h with rfl | h
    · omega
    · exact fixF_in u d (i + 1) n h
theorem encB_in (x : S53) : ∀ n ∈ encB x, 0 ≤ n ∧ n < 256 := by
  intro n hn
  unfold encB at hn
  rcases List.mem_cons.mp hn with rfl | hn
  · omega
  · by_cases h1 : x.f0 = 1
    · rw [if_pos h1] at hn
      rcases List.mem_cons.mp hn with rfl | hn
      · omega
      · cases hn
    · rw [if_neg h1] at hn
      by_cases h2 : x.f0 = 2 ∨ x.f0 = 3
      · rw [if_pos h2] at hn; exact fixF_in _ _ _ n hn
      · rw [if_neg h2] at hn
        by_cases h4 : x.f0 = 4
        · rw [if_pos h4] at hn
          rcases List.mem_append.mp hn with hn | hn
          · exact fixF_in _ _ _ n hn
          · exact bytesOf_in _ n hn
        · rw [if_neg h4] at hn; cases hn
theorem allB_in (l : List S53) : ∀ n ∈ allB l, 0 ≤ n ∧ n < 256 := by
  intro n hn
  unfold allB at hn
  obtain ⟨b, hb, hn⟩ := List.mem_flatten.mp hn
  obtain ⟨x, _, rfl⟩ := List.mem_map.mp hb
  exact encB_in x n hn
theorem bytesOf_str (xs : List Int) (h : ∀ n ∈ xs, 0 ≤ n ∧ n < 256) : bytesOf (strOfNums xs) = xs := by
  show (xs.map fun n : Int => UInt8.ofNat n.toNat).map (fun b : UInt8 => (b.toNat : Int)) = xs
  rw [List.map_map]
  conv => rhs; rw [← List.map_id xs]
  refine List.map_congr_left fun n hn => ?_
  have := h n hn
  show ((UInt8.ofNat n.toNat).toNat : Int) = n
  rw [UInt8.toNat_ofNat']
  omega
theorem str_bytesOf (s : ByteArray) : strOfNums (bytesOf s) = s := bytesOf_inj (bytesOf_str _ (bytesOf_in s))
theorem encFrom_none (l : List S53) : ∀ d i, i + d = l.length → ¬ (∀ x ∈ l.drop i, okV x.f0 x.f1 x.f2 = true) → encFrom l d i = none
  | 0, i, h, hn => by exact absurd (fun x hx => by rw [List.drop_eq_nil_of_le (by omega)] at hx; cases hx) hn
  | d + 1, i, h, hn => by
    have hg : rd_T53 l (i : Int) = l[i]'(by omega) := by
      unfold rd_T53
      rw [Int.toNat_natCast, List.getD_eq_getElem?_getD, List.getElem?_eq_getElem (by omega)]; rfl
    rw [encFrom, hg]
    by_cases ho : okV (l[i]'(by omega)).f0 (l[i]'(by omega)).f1 (l[i]'(by omega)).f2 = true
    · rw [if_pos ho, encFrom_none l d (i + 1) (by omega) (fun hall => hn (fun x hx => ?_))]
      · rfl
      · rw [List.drop_eq_getElem_cons (show i < l.length by omega)] at hx
        rcases List.mem_cons.mp hx with rfl | hx
        · exact ho
        · exact hall x hx
    · rw [if_neg ho]
theorem encV_ok (l : List S53) (ho : ∀ x ∈ l, okV x.f0 x.f1 x.f2 = true) : encV l = (strOfNums (allB l), 0) := by
  unfold encV
  rw [encFrom_all l ho l.length 0 (by omega)]
  simp [encR]
theorem encV_not (l : List S53) (ho : ¬ ∀ x ∈ l, okV x.f0 x.f1 x.f2 = true) : encV l = (⟨#[]⟩, 31) := by
  unfold encV
  rw [encFrom_none l l.length 0 (by omega) (by simpa using ho)]
  rfl
theorem decV_enc (l : List S53) (ho : ∀ x ∈ l, okV x.f0 x.f1 x.f2 = true) (hr : ∀ x ∈ l, in64 x) : decV (strOfNums (allB l)) = (l, 0) := by
  unfold decV
  rw [dec_enc l _ _ [] (Nat.le_refl _) ho hr (bytesOf_str _ (allB_in l))]
  rfl
end Go.Proofs.YtiabggpijomjmaaDoor
