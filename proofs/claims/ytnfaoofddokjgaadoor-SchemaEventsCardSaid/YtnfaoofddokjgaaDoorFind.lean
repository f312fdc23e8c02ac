import Derived.Test.YtnfaoofddokjgaaDoorOpenS
import Derived.Test.YtnfaoofddokjgaaDoorPlFits
import Derived.Test.YtnfaoofddokjgaaDoorPlSames
import Derived.Outline
import Derived.WalkSpells
namespace Go.Proofs.YtnfaoofddokjgaaDoor
open Go.RowKit Print Go.Proofs.YtnfaoofddokjgaaDoorW.PrintWords Go.Proofs.YtnfaoofddokjgaaDoorW.PrintLast Go.Proofs.YtnfaoofddokjgaaDoorW.PrintMore
set_option linter.unusedVariables false
set_option linter.unusedSimpArgs false
/-! ### A schema by its name -/
abbrev k24 : Kd (ByteArray × List S40) := Kd.pair Kd.string (Kd.slice 40 k40)
theorem k24_open {w : World} {x : ByteArray × List S40} {cs : List Value} (h : k24.K w x cs) : ∃ A c, cs = [.string x.1, .slice A x.2.length c] ∧ x.2.length ≤ c ∧ Kd.C k40 w A x.2.length x.2 := by
  obtain ⟨c0, c1, rfl, h0, A, c, h1, hl, hC⟩ := h
  have h0' : c0 = [.string x.1] := h0
  subst h0' h1
  exact ⟨A, c, rfl, hl, hC⟩
def z24 : ByteArray × List S40 := (⟨#[]⟩, [])
def rd24 (l : List (ByteArray × List S40)) (i : Int) : ByteArray × List S40 := l.getD i.toNat z24
theorem at24 {w : World} {A : Option Addr} {n : Nat} {l : List (ByteArray × List S40)} (h : Kd.C k24 w A n l) (i : Int) (h0 : 0 ≤ i) (h1 : i < n) : ∃ ad B b, A = some ad ∧ w.cell? (ad.add (i.toNat * 2)) = some (.string (rd24 l i).1) ∧ w.cell? ⟨(ad.add (i.toNat * 2)).block, (ad.add (i.toNat * 2)).off + 1, none⟩ = some (.slice B (rd24 l i).2.length b) ∧ (rd24 l i).2.length ≤ b ∧ Kd.C k40 w B (rd24 l i).2.length (rd24 l i).2 := by
  obtain ⟨ad, c, e, _, hK, hc0⟩ := Kd.C_get h z24 i h0 h1
  have hc : ∀ j u, c[j]? = some u → w.cell? (ad.add (i.toNat * 2 + j)) = some u := hc0
  obtain ⟨B, b, rfl, l1, g1⟩ := k24_open hK
  exact ⟨ad, B, b, e, hc 0 _ rfl, by rw [← add_field _ _ 1 (by omega)]; exact hc 1 _ rfl, l1, g1⟩
set_option maxHeartbeats 2000000 in
set_option maxRecDepth 100000 in
theorem name_any (p : Nat) (s a : ByteArray) (v : Value) (w : World) (hp : w.cell? ⟨p, 0, none⟩ = some (.string s)) :
    Calls Tryd.prog 32 #[.agg #[.string a, v], .pointer (some ⟨p, 0, none⟩)] w fun e w' => e = .returned (.bool (a.toList == s.toList)) ∧ Below w.heap.size w w' := by
  have hu24 := Tryd.underlying24
  have zz : ∀ u : Value, (w.alloc (.cells #[.string a, u] 24)).cell? ⟨p, 0, none⟩ = some (.string s) := fun u => pw_cell_below (below_alloc (Below.refl _ _) _) hp
  have hq := zz v
  clear zz
  go_enter Tryd.func32, Tryd.ntmps32
  go_wp2_with fail
  go_ret
  exact ⟨rfl, by repeat (first | exact Below.refl _ _ | apply below_alloc | apply pw_below_drewN | apply below_drew1)⟩
theorem drop_rd {l : List (ByteArray × List S40)} {i : Int} (h0 : 0 ≤ i) (h1 : i < l.length) : l.drop i.toNat = rd24 l i :: l.drop (i.toNat + 1) := by
  have hx : rd24 l i = l[i.toNat]'(by omega) := by unfold rd24; rw [List.getD_eq_getElem?_getD, List.getElem?_eq_getElem (by omega)]; rfl
  rw [hx]
  exact List.drop_eq_getElem_cons (by omega)
/-- The place of a name, from place i on; the row's length, if there is none. -/
def whereFrom (s : ByteArray) : List (ByteArray × List S40) → Nat → Nat
  | [], i => i
  | x :: l, i => if (x.1.toList == s.toList) = true then i else whereFrom s l (i + 1)
set_option maxHeartbeats 2000000 in
set_option maxRecDepth 100000 in
theorem index_any (p : Nat) (s : ByteArray) (A : Option Addr) (c : Nat) (l : List (ByteArray × List S40)) (w : World) (hp : w.cell? ⟨p, 0, none⟩ = some (.string s)) (hl : Kd.C k24 w A l.length l) (hc : l.length ≤ c) (r : Int) (hr : (if whereFrom s l 0 < l.length then (whereFrom s l 0 : Int) else -1) = r) :
    Calls Tryd.prog 31 #[.slice A l.length c, .func (.func 32) #[] #[.pointer (some ⟨p, 0, none⟩)]] w fun e w' => e = .returned (.int .i64 r) ∧ Below w.heap.size w w' := by
  have hu24 := Tryd.underlying24
  have HRR := Aside0.mk hr
  clear hr
  go_enter Tryd.func31, Tryd.ntmps31
  have HW0 := Aside0.mk (Below.refl w.heap.size w)
  have HL := Aside0.mk hl
  have HP := Aside0.mk hp
  clear hl hp
  have hmx : (l.length : Int) ≤ 9223372036854775807 := by have := Kd.C_max HL.out; omega
  go_wp2
  go_loopg [8] l.length (fun kq v8 wr => ∃ i : Int, v8 = .int .i64 i ∧ Aside0 (0 ≤ i ∧ i + kq = l.length ∧ whereFrom s l 0 = whereFrom s (l.drop i.toNat) i.toNat) ∧ Aside0 (Below w.heap.size w wr))
  case atStart => exact ⟨0, rfl, ⟨Int.le_refl _, by omega, rfl⟩, HW0⟩
  case round =>
    clear HW0
    obtain ⟨i, rfl, HK, HB⟩ := hrel
    have i0 := HK.out.1
    have ik := HK.out.2.1
    by_cases hi : i < l.length
    · obtain ⟨gk, rfl⟩ : ∃ j, gk = j + 1 := ⟨gk - 1, by omega⟩
      have hii : i + 1 ≤ 9223372036854775807 := by omega
      obtain ⟨ad, B, b, rfl, q0, q1, _, _⟩ := at24 HL.out i i0 hi
      have z0 := pw_cell_below HB.out q0
      have z1 := pw_cell_below HB.out q1
      have zp := pw_cell_below HB.out HP.out
      clear q0 q1
      have HD := drop_rd i0 hi
      have HN := Aside0.mk (name_any p s (rd24 l i).1 (.slice B (rd24 l i).2.length b) wr zp)
      have HK2 : Aside0 (whereFrom s l 0 = if ((rd24 l i).1.toList == s.toList) = true then i.toNat else whereFrom s (l.drop (i.toNat + 1)) (i.toNat + 1)) := ⟨by rw [HK.out.2.2, HD]; rfl⟩
      clear HD
      by_cases hb : ((rd24 l i).1.toList == s.toList) = true
      · rw [hb] at HN
        rw [hb] at HK2
        clear hb
        go_wp2_with (first | (go_at_call 32; refine HN.out.mono ?_; rintro e w2 ⟨rfl, hb2⟩; have HB2 := Aside0.mk (below_step HB.out hb2); clear hb2 HN))
        go_ret
        refine ⟨?_, HB2.out⟩
        have h1 : whereFrom s l 0 = i.toNat := by simpa using HK2.out
        have h2 : i = r := by have h := HRR.out; rw [h1, if_pos (by omega)] at h; omega
        rw [h2]
        rfl
      · rw [Bool.not_eq_true] at hb
        rw [hb] at HN
        rw [hb] at HK2
        clear hb
        go_wp2_with (first | (go_at_call 32; refine HN.out.mono ?_; rintro e w2 ⟨rfl, hb2⟩; have HB2 := Aside0.mk (below_step HB.out hb2); clear hb2 HN))
        go_roundg gk
        case measure => omega
        case rel =>
          have this : whereFrom s l 0 = whereFrom s (l.drop (i.toNat + 1)) (i.toNat + 1) := by simpa using HK2.out
          have e : (i + 1).toNat = i.toNat + 1 := by omega
          exact ⟨i + 1, rfl, ⟨by omega, by omega, by rw [e]; exact this⟩, ⟨below_step HB2.out (by repeat (first | exact Below.refl _ _ | apply below_alloc | apply pw_below_drewN | apply below_drew1))⟩⟩
    · have HK2 : Aside0 (whereFrom s l 0 = l.length) := ⟨by
        have h := HK.out.2.2
        rw [List.drop_eq_nil_of_le (by omega)] at h
        rw [h]
        show i.toNat = _
        omega⟩
      go_wp2
      go_ret
      refine ⟨?_, below_step HB.out (by repeat (first | exact Below.refl _ _ | apply below_alloc | apply pw_below_drewN | apply below_drew1))⟩
      have h2 : -1 = r := by have h := HRR.out; rw [HK2.out, if_neg (by omega)] at h; exact h
      rw [← h2]
      rfl
theorem R_empty_lit40 (w : World) : k40.R 40 (w.alloc (.cells #[] 40)) w.heap.size (fun _ => True) (.slice (some ⟨w.heap.size, 0, none⟩) 0 0) ([] : List S40) :=
  ⟨fun _ _ => trivial, OwnRow.lit (R := k40.M (w.alloc (.cells #[] 40)) w.heap.size _) w w.heap.size (inner := []) (Reps.none _ _) (Nat.le_refl _) (by simp)⟩
def cloned (l0 : List S40) : Option (List S40) := if l0.length < 5864062014805 then some l0 else none
set_option maxHeartbeats 1000000 in
set_option maxRecDepth 100000 in
theorem clone_any (A0 : Option Addr) (c0 : Nat) (l0 : List S40) (r : List S40) (w : World) (hr0 : Kd.C k40 w A0 l0.length l0) (hc0 : l0.length ≤ c0) (h : cloned l0 = some r) :
    Calls Tryd.prog 33 #[.slice A0 l0.length c0] w fun e w' => ∃ v0_ : Value, e = .returned (v0_) ∧ Kd.R k40 40 w' w.heap.size (fun _ => True) v0_ r ∧ Below w.heap.size w w' := by
  unfold cloned at h
  split at h
  case isFalse => cases h
  rename_i hlen
  obtain rfl := Option.some.inj h
  clear h
  have HR0 := Aside0.mk hr0
  have HC0 := Aside0.mk hc0
  have HL := Aside0.mk hlen
  clear hr0 hc0 hlen
  rcases A0 with _ | ad
  · obtain rfl : l0 = [] := by
      rcases l0 with _ | ⟨x, l⟩
      · rfl
      · obtain ⟨_, _, hn⟩ := HR0.out
        obtain ⟨ad, h, _⟩ := hn (by simp)
        cases h
    show Calls Tryd.prog 33 #[.slice none 0 c0] w _
    have e1 : ∀ W : World, (binOp .eql 22 (.slice none 0 c0) (.slice none 0 0)).run Tryd.prog W = .ok (.bool true) W := fun W => Lib.run_eql_slice_nil W 22 40 none _ _ _ _ Tryd.underlying22
    go_enter Tryd.func33, Tryd.ntmps33
    go_wp2
    go_ret
    exact ⟨_, rfl, Kd.R_nil _ _ _ _ _, by repeat (first | exact Below.refl _ _ | apply below_alloc | apply pw_below_drewN | apply below_drew1)⟩
  · have e1 : ∀ W : World, (binOp .eql 22 (.slice (some ad) l0.length c0) (.slice none 0 0)).run Tryd.prog W = .ok (.bool false) W := fun W => Lib.run_eql_slice_nil W 22 40 (some ad) _ _ _ _ Tryd.underlying22
    go_enter Tryd.func33, Tryd.ntmps33
    go_wp2_with (first | ((with_reducible refine gate_builtin (b := .append) (xs := #[.tmp 5, .tmp 6]) rfl ?_); at_builtin; refine Kd.R_append_rows k40 (w0 := w) w.heap.size rfl (.tmp 5) (.tmp 6) 22 40 (.agg #[(.string ⟨#[]⟩), (.int .i64 0)]) 24 rfl Tryd.underlying22 info40 rfl (by decide) (by omega) (.slice (some ⟨w.heap.size, 0, none⟩) 0 0) ([] : List (S40)) l0 _ _ _ (fun _ => True) (fun _ => False) rfl rfl ?aO ?aR (fun _ _ h => h) (fun _ h => h.elim) ?aF ?aB ?aS ?aL ?_; (case aR => exact Kd.C_below HR0.out (below_alloc (Below.refl _ _) _)); (case aB => exact below_alloc (Below.refl _ _) _); (case aF => exact (fun _ _ => trivial)); (case aO => exact R_empty_lit40 w); (case aS => simp); (case aL => have := HL.out; simp; omega); intro v144 w6 ho hb hg hat; have HO := Aside0.mk ho; have HB := Aside0.mk hb; clear ho hb hg hat))
    go_ret
    exact ⟨_, rfl, HO.out, HB.out⟩
/-- The schema of a name. -/
def fnd (s : ByteArray) (l : List (ByteArray × List S40)) : ByteArray × List S40 × Bool := if whereFrom s l 0 < l.length then ((rd24 l (whereFrom s l 0 : Nat)).1, (rd24 l (whereFrom s l 0 : Nat)).2, true) else (⟨#[]⟩, [], false)
def FndP (w : World) (f : ByteArray × List S40 × Bool) (e : Ending) (w' : World) : Prop := ∃ B b, e = .returned (.tuple #[.agg #[.string f.1, .slice B f.2.1.length b], .bool f.2.2]) ∧ f.2.1.length ≤ b ∧ Kd.C k40 w' B f.2.1.length f.2.1 ∧ Below w.heap.size w w'
set_option maxHeartbeats 4000000 in
set_option maxRecDepth 100000 in
theorem find_any (s : ByteArray) (A : Option Addr) (c : Nat) (l : List (ByteArray × List S40)) (w : World) (hl : Kd.C k24 w A l.length l) (hc : l.length ≤ c) (hsm : ∀ x ∈ l, x.2.length < 5864062014805) :
    Calls Tryd.prog 21 #[.slice A l.length c, .string s] w (FndP w (fnd s l)) := by
  have hu24 := Tryd.underlying24
  have hmf : ∀ (fn : Fn) (first cap : Array Value) (w : World), (Instr.makeFunc fn first cap).run Tryd.prog w = .ok (.func fn first cap) w := fun _ _ _ _ => rfl
  have HL := Aside0.mk hl
  have HS := Aside0.mk hsm
  have hb0 : Below w.heap.size w ((w.alloc (.cells #[.string s] 9)).alloc (.cells #[.string ⟨#[]⟩, .slice none 0 0] 24)) := below_alloc (below_alloc (Below.refl _ _) _) _
  have x0 : ((w.alloc (.cells #[.string s] 9)).alloc (.cells #[.string ⟨#[]⟩, .slice none 0 0] 24)).heap[w.heap.size]? = some (.cells #[.string s] 9 (0, 0)) := ((below_alloc (Below.refl _ _) _).block _ (by simp)).trans (heap_alloc_new w _)
  have x1 : ((w.alloc (.cells #[.string s] 9)).alloc (.cells #[.string ⟨#[]⟩, .slice none 0 0] 24)).heap[w.heap.size + 1]? = some (.cells #[.string ⟨#[]⟩, .slice none 0 0] 24 (0, 0)) := by simpa using heap_alloc_new (w.alloc (.cells #[.string s] 9)) (.cells #[.string ⟨#[]⟩, .slice none 0 0] 24)
  have HX := Aside0.mk (And.intro x0 (And.intro x1 hb0))
  clear hl hsm x0 x1 hb0
  go_enter Tryd.func21, Tryd.ntmps21
  go_upto_region 1 with fail
  obtain ⟨x0, x1, hb0⟩ := HX.out
  generalize ((w.alloc (.cells #[.string s] 9)).alloc (.cells #[.string ⟨#[]⟩, .slice none 0 0] 24)) = W1 at *
  have HW := Aside0.mk (And.intro x0 (And.intro x1 hb0))
  clear x0 x1 hb0 HX
  have zs : W1.cell? ⟨w.heap.size, 0, none⟩ = some (.string s) := (blk_cell HW.out.1 0).trans rfl
  have HC := Aside0.mk (Kd.C_below HL.out HW.out.2.2)
  by_cases hj : whereFrom s l 0 < l.length
  · obtain ⟨j, ej⟩ : ∃ j, whereFrom s l 0 = j := ⟨_, rfl⟩
    rw [ej] at hj
    have hfd : fnd s l = ((rd24 l (j : Int)).1, (rd24 l (j : Int)).2, true) := by unfold fnd; rw [ej, if_pos hj]
    have HFD := Aside0.mk hfd
    have HJ := Aside0.mk (show (if whereFrom s l 0 < l.length then (whereFrom s l 0 : Int) else -1) = (j : Int) by rw [ej, if_pos hj])
    clear hfd ej
    have hj0 : (0 : Int) ≤ (j : Int) := by omega
    have hj1 : (j : Int) < (l.length : Int) := by omega
    have hmem : rd24 l (j : Int) ∈ l := by
      have : rd24 l (j : Int) = l[j] := by unfold rd24; rw [Int.toNat_natCast, List.getD_eq_getElem?_getD, List.getElem?_eq_getElem hj]; rfl
      rw [this]; exact List.getElem_mem _
    have HLEN := Aside0.mk (HS.out _ hmem)
    clear hmem
    obtain ⟨ad, B, b, rfl, q0, q1, hb, hcc⟩ := at24 HC.out (j : Int) hj0 hj1
    have HQ := Aside0.mk (And.intro q0 (And.intro q1 (And.intro hb hcc)))
    clear q0 q1 hb hcc
    go_upto_region 2 with (first | (go_at_call 31; refine (index_any w.heap.size s (some ad) c l _ zs HC.out hc (j : Int) HJ.out).mono ?_; rintro e w1 ⟨rfl, hb1⟩; have HB1 := Aside0.mk hb1; clear hb1))
    have y0 := pw_cell_below HB1.out HQ.out.1
    have y1 := pw_cell_below HB1.out HQ.out.2.1
    rw [Int.toNat_natCast] at y0 y1
    have HY := Aside0.mk (Kd.C_below HQ.out.2.2.2 HB1.out)
    have hne : w.heap.size + 1 ≠ (ad.add (j * 2)).block := by
      obtain ⟨ad', B', b', e', q', _⟩ := at24 HL.out (j : Int) hj0 hj1
      injection e' with e'
      subst e'
      have := World.block_lt_of_cell? w _ q'
      rw [Int.toNat_natCast] at this
      omega
    have k1 := (HB1.out.block _ (blk_lt HW.out.2.1)).trans HW.out.2.1
    have v0 := blk_cell k1 0
    have v1 := blk_cell k1 1
    have f0 := blk_frozen k1 0
    have f1 := blk_frozen k1 1
    have HK1 := Aside0.mk k1
    clear k1 zs
    generalize hrd : rd24 l (j : Int) = x at *
    go_upto_region 4 with fail
    go_region_held3 (fun w' => w'.cell? (ad.add (j * 2)) = some (.string x.1) ∧ w'.cell? ⟨(ad.add (j * 2)).block, (ad.add (j * 2)).off + 1, none⟩ = some (.slice B x.2.length b))
      (first | go_keep)
      (first | (go_at_call 33; refine (clone_any B b x.2 x.2 _ (Kd.C_below HY.out (by repeat (first | exact Below.refl _ _ | apply below_alloc | apply pw_below_drewN | apply below_drew1))) HQ.out.2.2.1 (by unfold cloned; rw [if_pos HLEN.out])).mono ?_; rintro e w2 ⟨v, rfl, hR, hb2⟩; obtain ⟨B2, b2, rfl⟩ := Kd.R_slice hR; have e0 := pw_cell_below hb2 (a := ad.add (j * 2)) (v := .string x.1) (by go_simp); have e1 := pw_cell_below hb2 (a := ⟨(ad.add (j * 2)).block, (ad.add (j * 2)).off + 1, none⟩) (v := .slice B x.2.length b) (by go_simp); have k2 : w2.heap[w.heap.size + 1]? = some (.cells #[.string ⟨#[]⟩, .slice none 0 0] 24 (0, 0)) := (hb2.block _ (blk_lt HK1.out)).trans HK1.out; have g0 := blk_cell k2 0; have g1 := blk_cell k2 1; have h0 := blk_frozen k2 0; have h1 := blk_frozen k2 1; have HK2 := Aside0.mk k2; have HR2 := Aside0.mk hR; have HB2 := Aside0.mk (below_step (below_drew1 (Below.refl w1.heap.size w1)) hb2); clear k2 hR hb2))
    go_wp2_with fail
    have hcell := blk_put (cs' := #[.string x.1, .slice B2 x.2.length b2]) (blk_put (cs' := #[.string x.1, .slice none 0 0]) HK2.out 0 (.string x.1) rfl) 1 (.slice B2 x.2.length b2) rfl
    refine bodyPost_ret (results_ct rfl _ _ (w.heap.size + 1) 24 #[.string x.1, .slice B2 x.2.length b2] (0, 0) _ rfl hcell Tryd.underlying24 rfl (by kernel_rfl)) rfl ?_
    have hlt := blk_lt HK1.out
    have hF := Kd.R_far (Kd.R_far (Kd.R_bound HR2.out) (p := ⟨w.heap.size + 1, 0, none⟩) (fun k hk => by have h := hk.2.1; have h' : w1.heap.size ≤ k := h; show k ≠ w.heap.size + 1; omega) (.string x.1)) (p := ⟨w.heap.size + 1, 1, none⟩) (fun k hk => by have h := hk.2.1; have h' : w1.heap.size ≤ k := h; show k ≠ w.heap.size + 1; omega) (.slice B2 x.2.length b2)
    obtain ⟨_, hl2, hC2⟩ := Kd.R_reads' hF
    rw [HFD.out]
    exact ⟨B2, b2, rfl, hl2, hC2, below_set (below_set (below_step (below_step HW.out.2.2 HB1.out) HB2.out) (by omega)) (by omega)⟩
  · have hfd : fnd s l = (⟨#[]⟩, [], false) := by unfold fnd; rw [if_neg hj]
    have HFD := Aside0.mk hfd
    have HJ := Aside0.mk (show (if whereFrom s l 0 < l.length then (whereFrom s l 0 : Int) else -1) = -1 by rw [if_neg hj])
    clear hfd hj
    go_upto_region 2 with (first | (go_at_call 31; refine (index_any w.heap.size s A c l _ zs HC.out hc (-1) HJ.out).mono ?_; rintro e w1 ⟨rfl, hb1⟩; have HB1 := Aside0.mk hb1; clear hb1))
    have k1 := (HB1.out.block _ (blk_lt HW.out.2.1)).trans HW.out.2.1
    have v0 := blk_cell k1 0
    have v1 := blk_cell k1 1
    have f0 := blk_frozen k1 0
    have f1 := blk_frozen k1 1
    have HK1 := Aside0.mk k1
    clear k1 zs
    go_wp2_with fail
    have hcell := blk_put (cs' := #[.string ⟨#[]⟩, .slice none 0 0]) (blk_put (cs' := #[.string ⟨#[]⟩, .slice none 0 0]) HK1.out 0 (.string ⟨#[]⟩) rfl) 1 (.slice none 0 0) rfl
    refine bodyPost_ret (results_ct rfl _ _ (w.heap.size + 1) 24 #[.string ⟨#[]⟩, .slice none 0 0] (0, 0) _ rfl hcell Tryd.underlying24 rfl (by kernel_rfl)) rfl ?_
    rw [HFD.out]
    exact ⟨none, 0, rfl, Nat.le_refl _, ⟨rfl, by simp, fun h => absurd h (by simp)⟩, below_set (below_set (below_step HW.out.2.2 HB1.out) (by omega)) (by omega)⟩
end Go.Proofs.YtnfaoofddokjgaaDoor
