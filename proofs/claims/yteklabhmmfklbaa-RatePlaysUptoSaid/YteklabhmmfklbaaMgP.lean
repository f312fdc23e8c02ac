import Derived.Test.YteklabhmmfklbaaSplitL
namespace Go.Proofs.Yteklabhmmfklbaa
open Go.RowKit Print Go.Proofs.YteklabhmmfklbaaW.PrintWords Go.Proofs.YteklabhmmfklbaaW.PrintLast Go.Proofs.YteklabhmmfklbaaW.PrintMore
set_option linter.unusedVariables false
variable {w w1 w2 W : World} {L : List Asr}
/-! ### Rows that are written over: their shape alone counts -/
def WvP (w : World) (F : Nat → Prop) (v : Value) (n : Nat) : Prop :=
  ∃ A c, v = .slice A n c ∧ (0 < n → ∃ g cur, A = some ⟨g, 0, none⟩ ∧ F g ∧ w.heap[g]? = some (.cells cur 68 (0, 0)) ∧ n * 3 ≤ cur.size ∧ n ≤ c)
/-- A write into a block of values: all other blocks are as they were, the block's size too. -/
structure Shp (w w' : World) (F : Nat → Prop) : Prop where
  k3 : K3 w w' F
  sz : w'.heap.size = w.heap.size
  sh : ∀ (g : Nat) (cur : Array Value) (t : TypeId), w.heap[g]? = some (Obj.cells cur t (0, 0)) → ∃ cur' : Array Value, w'.heap[g]? = some (Obj.cells cur' t (0, 0)) ∧ cur'.size = cur.size ∧ (t ≠ 68 → cur' = cur)
theorem Shp.refl (w : World) (F : Nat → Prop) : Shp w w F := ⟨K3.refl _ _, rfl, fun g cur t h => ⟨cur, h, rfl, fun _ => rfl⟩⟩
theorem Shp.then_ {F : Nat → Prop} (h : Shp w w1 F) (k : Shp w1 w2 F) : Shp w w2 F :=
  ⟨h.k3.then_ k.k3 (fun _ hk => .inl hk), k.sz.trans h.sz, fun g cur t hh => by
    obtain ⟨c1, h1, s1, e1⟩ := h.sh g cur t hh
    obtain ⟨c2, h2, s2, e2⟩ := k.sh g c1 t h1
    exact ⟨c2, h2, s2.trans s1, fun ht => (e2 ht).trans (e1 ht)⟩⟩
theorem Shp.set {F : Nat → Prop} {g : Nat} {cur : Array Value} (hF : F g) (hh : w.heap[g]? = some (.cells cur 68 (0, 0))) (i : Nat) (u : Value) : Shp w (w.setCell ⟨g, i, none⟩ u) F := by
  refine ⟨(K3.refl w F).setCell (p := ⟨g, i, none⟩) (.inl hF) u, by simp [World.setCell], fun g' cur' t h => ?_⟩
  by_cases e : g' = g
  · subst e
    have he := hh.symm.trans h
    injection he with he
    injection he with e1 e2
    subst e1 e2
    exact ⟨_, blk_set hh i u, by simp, fun ht => absurd rfl ht⟩
  · exact ⟨cur', blk_far h (p := ⟨g, i, none⟩) e u, rfl, fun _ => rfl⟩
theorem WvP.shp {F G : Nat → Prop} {v : Value} {n : Nat} (h : WvP w F v n) (hs : Shp w w1 G) : WvP w1 F v n := by
  obtain ⟨A, c, rfl, h⟩ := h
  refine ⟨A, c, rfl, fun hn => ?_⟩
  obtain ⟨g, cur, rfl, hF, hh, hs', hc⟩ := h hn
  obtain ⟨cur', h1, s1, _⟩ := hs.sh g cur 68 hh
  exact ⟨g, cur', rfl, hF, h1, by rw [s1]; exact hs', hc⟩
theorem WvP.kept {F S : Nat → Prop} {v : Value} {n : Nat} (h : WvP w F v n) (hk : K3 w w1 S) (hd : ∀ k, F k → ¬ S k) : WvP w1 F v n := by
  obtain ⟨A, c, rfl, h⟩ := h
  refine ⟨A, c, rfl, fun hn => ?_⟩
  obtain ⟨g, cur, rfl, hF, hh, hs⟩ := h hn
  exact ⟨g, cur, rfl, hF, K3.blk hh hk (hd g hF), hs⟩
theorem WvP.mono {F G : Nat → Prop} {v : Value} {n : Nat} (h : WvP w F v n) (hs : ∀ k, F k → G k) : WvP w G v n := by
  obtain ⟨A, c, rfl, h⟩ := h
  refine ⟨A, c, rfl, fun hn => ?_⟩
  obtain ⟨g, cur, rfl, hF, hh, hs'⟩ := h hn
  exact ⟨g, cur, rfl, hs g hF, hh, hs'⟩
theorem WvP.of {F : Nat → Prop} {v : Value} {r : List S68} (h : k68.R 68 w 0 F v r) : WvP w F v r.length := by
  obtain ⟨h0, inner, ⟨hl, ho⟩, hr⟩ := h
  rcases ho with ⟨rfl, hz⟩ | ⟨g, cap, cur, rfl, _, hh, hc, _, hs, _⟩
  · rw [hz]; exact ⟨none, 0, rfl, fun h => absurd h (Nat.lt_irrefl _)⟩
  · refine ⟨_, cap, rfl, fun hn => ⟨g, cur, rfl, h0 g rfl, hh, ?_, hc⟩⟩
    rw [hs]
    exact Nat.mul_le_mul_right _ hc
def WvsP (w : World) (F : Nat → Prop) (v : Value) (m : Nat) : Prop :=
  ∃ A c, v = .slice A m c ∧ m ≤ 2097152 ∧ (0 < m → ∃ g0 cur, A = some ⟨g0, 0, none⟩ ∧ F g0 ∧ w.heap[g0]? = some (.cells cur 61 (0, 0)) ∧ m ≤ c ∧ ∀ j, j < m → ∃ u n, cur[j]? = some u ∧ n ≤ 2097152 ∧ WvP w F u n)
theorem WvsP.shp {F G : Nat → Prop} {v : Value} {m : Nat} (h : WvsP w F v m) (hs : Shp w w1 G) : WvsP w1 F v m := by
  obtain ⟨A, c, rfl, hm, h⟩ := h
  refine ⟨A, c, rfl, hm, fun hn => ?_⟩
  obtain ⟨g, cur, rfl, hF, hh, hc, hj⟩ := h hn
  obtain ⟨cur', h1, s1, e1⟩ := hs.sh g cur 61 hh
  obtain rfl := e1 (by decide)
  exact ⟨g, cur', rfl, hF, h1, hc, fun j hjm => by
    obtain ⟨u, n, hu, hn, hw⟩ := hj j hjm
    exact ⟨u, n, hu, hn, hw.shp hs⟩⟩
theorem WvsP.kept {F S : Nat → Prop} {v : Value} {m : Nat} (h : WvsP w F v m) (hk : K3 w w1 S) (hd : ∀ k, F k → ¬ S k) : WvsP w1 F v m := by
  obtain ⟨A, c, rfl, hm, h⟩ := h
  refine ⟨A, c, rfl, hm, fun hn => ?_⟩
  obtain ⟨g, cur, rfl, hF, hh, hc, hj⟩ := h hn
  exact ⟨g, cur, rfl, hF, K3.blk hh hk (hd g hF), hc, fun j hjm => by
    obtain ⟨u, n, hu, hn, hw⟩ := hj j hjm
    exact ⟨u, n, hu, hn, hw.kept hk hd⟩⟩
theorem WvsP.of {F : Nat → Prop} {v : Value} {ll : RowsL} (h : kR.R 61 w 0 F v ll) (hs : Sm ll) : WvsP w F v ll.length := by
  obtain ⟨h0, inner, ⟨hl, ho⟩, hr⟩ := h
  rcases ho with ⟨rfl, hz⟩ | ⟨g, cap, cur, rfl, _, hh, hc, _, hsz, ht⟩
  · have e : ll = [] := List.eq_nil_of_length_eq_zero hz
    subst e
    exact ⟨none, 0, rfl, Nat.zero_le _, fun h => absurd h (Nat.lt_irrefl _)⟩
  · refine ⟨_, cap, rfl, hs.1, fun hn => ⟨g, cur, rfl, h0 g rfl, hh, hc, fun j hj => ?_⟩⟩
    have hjr := List.getElem?_eq_getElem hj
    obtain ⟨u, hu, hR⟩ := hr.2 j _ hjr
    refine ⟨u, _, ?_, hs.2 _ (List.getElem_mem hj), WvP.of (Kd.R_mono hR (fun k hk => hk.1))⟩
    have sz : kR.sz = 1 := rfl
    rw [sz, Nat.mul_one] at hu ht
    have h1 : ((inner.drop j).take 1)[0]? = some u := by
      rw [hu]
      rfl
    rw [List.getElem?_take, if_pos (by omega), List.getElem?_drop, ← ht, List.getElem?_take, if_pos (by omega), Array.getElem?_toList] at h1
    simpa using h1
/-- What is known of one value's cells. -/
structure Three (w : World) (g i : Nat) : Prop where
  x : ∃ x, w.cell? ⟨g, i, none⟩ = some x
  y : ∃ x, w.cell? ⟨g, i + 1, none⟩ = some x
  z : ∃ x, w.cell? ⟨g, i + 2, none⟩ = some x
  fx : w.frozen? ⟨g, i, none⟩ = false
  fy : w.frozen? ⟨g, i + 1, none⟩ = false
  fz : w.frozen? ⟨g, i + 2, none⟩ = false
theorem cell_at_some {g i : Nat} {cur : Array Value} {t : TypeId} (h : w.heap[g]? = some (.cells cur t (0, 0))) (hi : i < cur.size) : ∃ x, w.cell? ⟨g, i, none⟩ = some x := ⟨cur[i], (blk_cell h i).trans (Array.getElem?_eq_getElem hi)⟩
theorem three_of {g i n : Nat} {cur : Array Value} {t : TypeId} (h : w.heap[g]? = some (.cells cur t (0, 0))) (hs : n * 3 ≤ cur.size) (hi : i < n) : Three w g (i * 3) :=
  ⟨cell_at_some h (by omega), cell_at_some h (by omega), cell_at_some h (by omega), blk_frozen h _, blk_frozen h _, blk_frozen h _⟩
theorem wvsP_at {F : Nat → Prop} {A : Option Addr} {m c : Nat} (h : WvsP w F (.slice A m c) m) (j : Nat) (hj : j < m) :
    ∃ g0 B n d, A = some ⟨g0, 0, none⟩ ∧ m ≤ c ∧ w.cell? ⟨g0, j, none⟩ = some (.slice B n d) ∧ n ≤ 2097152 ∧
      ∀ i, i < n → n ≤ d ∧ ∃ g1, B = some ⟨g1, 0, none⟩ ∧ Three w g1 (i * 3) ∧ ∀ x y z, Shp w (((w.setCell ⟨g1, i * 3, none⟩ x).setCell ⟨g1, i * 3 + 1, none⟩ y).setCell ⟨g1, i * 3 + 2, none⟩ z) F := by
  obtain ⟨A', c', he, hm, hh⟩ := id h
  injection he with e1 e2 e3
  subst e1 e3
  obtain ⟨g0, cur, rfl, hF, hb, hc, hjn⟩ := hh (by omega)
  obtain ⟨u, n, hu, hn, B, d, rfl, hB⟩ := hjn j hj
  refine ⟨g0, B, n, d, rfl, hc, (blk_cell hb j).trans hu, hn, fun i hi => ?_⟩
  obtain ⟨g1, cur1, rfl, hF1, hb1, hs1, hc1⟩ := hB (by omega)
  refine ⟨hc1, g1, rfl, three_of hb1 hs1 hi, fun x y z => ?_⟩
  have b2 := blk_set hb1 (i * 3) x
  have b3 := blk_set b2 (i * 3 + 1) y
  exact ((Shp.set hF1 hb1 (i * 3) x).then_ (Shp.set hF1 b2 (i * 3 + 1) y)).then_ (Shp.set hF1 b3 (i * 3 + 2) z)
def Wvs (v : Value) (m : Nat) : Asr where
  P w F := WvsP w F v m ∧ ∀ k, F k → k < w.heap.size
  lt h := h.2
  keep h hk hd := ⟨h.1.kept hk hd, fun k hf => Nat.lt_of_lt_of_le (h.2 k hf) hk.1⟩
theorem Sep.shp {A : Asr} {F : Nat → Prop} (hd : ∀ k, F k → ¬ False) (hl : Sep w L (fun k => False ∨ F k)) (hs : Shp w w1 F) : Sep w1 L (fun k => False ∨ F k) :=
  hl.frame hs.k3 (fun k hk => .inr hk) (fun k hk => .inl hk)
/-- Deliveries' shape. -/
def DsP (w : World) (F : Nat → Prop) (v : Value) (m : Nat) : Prop :=
  ∃ A c, v = .slice A m c ∧ (0 < m → ∃ g0 cur, A = some ⟨g0, 0, none⟩ ∧ F g0 ∧ w.heap[g0]? = some (.cells cur 43 (0, 0)) ∧ m ≤ c ∧ ∀ j, j < m → ∃ u1 n1 u2 n2, cur[j * 3 + 1]? = some u1 ∧ cur[j * 3 + 2]? = some u2 ∧ WvsP w F u1 n1 ∧ WvsP w F u2 n2)
theorem DsP.shp {F G : Nat → Prop} {v : Value} {m : Nat} (h : DsP w F v m) (hs : Shp w w1 G) : DsP w1 F v m := by
  obtain ⟨A, c, rfl, h⟩ := h
  refine ⟨A, c, rfl, fun hn => ?_⟩
  obtain ⟨g, cur, rfl, hF, hh, hc, hj⟩ := h hn
  obtain ⟨cur', h1, s1, e1⟩ := hs.sh g cur 43 hh
  obtain rfl := e1 (by decide)
  exact ⟨g, cur', rfl, hF, h1, hc, fun j hjm => by
    obtain ⟨u1, n1, u2, n2, q1, q2, a1, a2⟩ := hj j hjm
    exact ⟨u1, n1, u2, n2, q1, q2, a1.shp hs, a2.shp hs⟩⟩
theorem DsP.kept {F S : Nat → Prop} {v : Value} {m : Nat} (h : DsP w F v m) (hk : K3 w w1 S) (hd : ∀ k, F k → ¬ S k) : DsP w1 F v m := by
  obtain ⟨A, c, rfl, h⟩ := h
  refine ⟨A, c, rfl, fun hn => ?_⟩
  obtain ⟨g, cur, rfl, hF, hh, hc, hj⟩ := h hn
  exact ⟨g, cur, rfl, hF, K3.blk hh hk (hd g hF), hc, fun j hjm => by
    obtain ⟨u1, n1, u2, n2, q1, q2, a1, a2⟩ := hj j hjm
    exact ⟨u1, n1, u2, n2, q1, q2, a1.kept hk hd, a2.kept hk hd⟩⟩
theorem DsP.of {F : Nat → Prop} {v : Value} {ds : List S43} (h : k43.R 43 w 0 F v ds) (hs : SmD ds) : DsP w F v ds.length := by
  obtain ⟨h0, inner, ⟨hl, ho⟩, hr⟩ := h
  rcases ho with ⟨rfl, hz⟩ | ⟨g, cap, cur, rfl, _, hh, hc, _, hsz, ht⟩
  · have e : ds = [] := List.eq_nil_of_length_eq_zero hz
    subst e
    exact ⟨none, 0, rfl, fun h => absurd h (Nat.lt_irrefl _)⟩
  · refine ⟨_, cap, rfl, fun hn => ⟨g, cur, rfl, h0 g rfl, hh, hc, fun j hj => ?_⟩⟩
    have hjr := List.getElem?_eq_getElem hj
    have hM := hr.2 j _ hjr
    have hsj := hs.2 _ (List.getElem_mem hj)
    obtain ⟨v1, v2, hcs, r1, r2⟩ := k43_openM hM
    have sz : k43.sz = 3 := rfl
    rw [sz] at hcs ht
    have h1 : ∀ i, i < 3 → cur[j * 3 + i]? = [Value.int .i64 (ds[j]'hj).f0, v1, v2][i]? := fun i hi => by
      have hq : ((inner.drop (j * 3)).take 3)[i]? = [Value.int .i64 (ds[j]'hj).f0, v1, v2][i]? := by rw [hcs]
      rw [List.getElem?_take, if_pos hi, List.getElem?_drop, ← ht, List.getElem?_take, if_pos (by omega), Array.getElem?_toList] at hq
      exact hq
    exact ⟨v1, _, v2, _, h1 1 (by omega), h1 2 (by omega), WvsP.of (Kd.R_mono r1 (fun k hk => hk.1)) hsj.1, WvsP.of (Kd.R_mono r2 (fun k hk => hk.1)) hsj.2⟩
def Dls (v : Value) (m : Nat) : Asr where
  P w F := DsP w F v m ∧ ∀ k, F k → k < w.heap.size
  lt h := h.2
  keep h hk hd := ⟨h.1.kept hk hd, fun k hf => Nat.lt_of_lt_of_le (h.2 k hf) hk.1⟩
end Go.Proofs.Yteklabhmmfklbaa
namespace Go.Proofs.Yteklabhmmfklbaa
open Go.RowKit Print Go.Proofs.YteklabhmmfklbaaW.PrintWords Go.Proofs.YteklabhmmfklbaaW.PrintLast Go.Proofs.YteklabhmmfklbaaW.PrintMore
set_option linter.unusedVariables false
theorem wrap_nat {i : Nat} (h : i ≤ 4398046511104) : wrap64 ((i : Int) + 1) = ((i + 1 : Nat) : Int) := by
  rw [w64 ⟨by omega, by omega⟩]; omega
set_option maxHeartbeats 8000000 in
set_option maxRecDepth 100000 in
/-- All rows are written over: the shape stands. -/
theorem spoil_any {F : Nat → Prop} (A : Option Addr) (m c : Nat) (w : World) (h : WvsP w F (.slice A m c) m) :
    Calls Try.prog 22 #[.slice A m c] w (fun e w' => e = .returned (.tuple #[]) ∧ Shp w w' F) := by
  have hu68 := Try.underlying68
  have hm : m ≤ 2097152 := by
    obtain ⟨A', c', he, hm, _⟩ := h
    exact hm
  have HM := Aside0.mk hm
  have HW := Aside0.mk h
  clear h hm
  go_enter Try.func22, Try.ntmps22
  go_wp2_with fail
  go_loopg [2] (m + 1) (fun kq v2 w' => ∃ i : Nat, v2 = .int .i64 i ∧ Aside0 (kq + i = m + 1) ∧ Aside0 (i ≤ m) ∧ Aside0 (Shp w w' F))
  case atStart => exact ⟨0, by simp, ⟨by omega⟩, ⟨Nat.zero_le _⟩, ⟨Shp.refl _ _⟩⟩
  case round =>
    obtain ⟨i, rfl, HK, HI, HS⟩ := hrel
    by_cases hi : i < m
    · obtain ⟨k1, rfl⟩ : ∃ k1, gk = k1 + 1 := ⟨gk - 1, by have := HK.out; omega⟩
      have r0 : (0 : Int) ≤ (i : Int) := by omega
      have r1 : (i : Int) < (m : Int) := by omega
      have rd : decide ((i : Int) < (m : Int)) = true := decide_eq_true r1
      have HWN := Aside0.mk (wrap_nat (i := i) (by have := HM.out; omega))
      obtain ⟨g0, B, n, d, rfl, hmc, hcell, hn, _⟩ := wvsP_at HW.out i hi
      have HCELL := Aside0.mk hcell
      have HNL := Aside0.mk hn
      clear hcell hn
      go_wp2_with fail
      go_loopg [3] (n + 1) (fun kq v3 w' => ∃ j : Nat, v3 = .int .i64 j ∧ Aside0 (kq + j = n + 1) ∧ Aside0 (j ≤ n) ∧ Aside0 (Shp w w' F))
      case atStart => exact ⟨0, by simp, ⟨by omega⟩, ⟨Nat.zero_le _⟩, HS⟩
      case round =>
        clear HS
        obtain ⟨j, rfl, HKJ, HJ, HS⟩ := hrel
        obtain ⟨g0', B', n', d', hA, hmc', hcell, hn', hin⟩ := wvsP_at (HW.out.shp HS.out) i hi
        injection hA with hA
        injection hA with hA
        subst hA
        have hsame : Value.slice B' n' d' = Value.slice B n d := by
          obtain ⟨A2, c2, he, _, hh⟩ := HW.out
          obtain ⟨gg, cur, hgg, _, hb, _⟩ := hh (by omega)
          injection he with he _ _
          rw [← he] at hgg
          injection hgg with hgg
          injection hgg with hgg
          subst hgg
          obtain ⟨cur', hb', _, hcur⟩ := HS.out.sh _ _ _ hb
          obtain rfl := hcur (by decide)
          have e1 := (blk_cell hb i).symm.trans HCELL.out
          have e2 := (blk_cell hb' i).symm.trans hcell
          rw [e1] at e2
          injection e2 with e2
          exact e2.symm
        injection hsame with hB hn hd
        subst hB hn hd
        by_cases hj : j < n'
        · obtain ⟨k2, rfl⟩ : ∃ k2, gk = k2 + 1 := ⟨gk - 1, by have := HKJ.out; omega⟩
          have s0 : (0 : Int) ≤ (j : Int) := by omega
          have s1 : (j : Int) < (n' : Int) := by omega
          have sd : decide ((j : Int) < (n' : Int)) = true := decide_eq_true s1
          obtain ⟨hnd, g1, rfl, T, hst⟩ := hin j hj
          have HST := Aside0.mk hst
          obtain ⟨q0, t0⟩ := T.x
          obtain ⟨q1, t1⟩ := T.y
          obtain ⟨q2, t2⟩ := T.z
          have f0 := T.fx
          have f1 := T.fy
          have f2 := T.fz
          have HWN2 := Aside0.mk (wrap_nat (i := j) (by have := HNL.out; omega))
          clear T hst hin
          go_wp2_with fail
          go_roundg k2
          case measure => omega
          case rel => exact ⟨j + 1, by first | rw [HWN2.out] | (congr 1 <;> omega), ⟨by have := HKJ.out; omega⟩, ⟨by omega⟩, ⟨HS.out.then_ (HST.out _ _ _)⟩⟩
        · have hje : j = n' := by have := HJ.out; omega
          have sd : decide ((j : Int) < (n' : Int)) = false := decide_eq_false (by omega)
          clear hin
          go_wp2_with fail
          go_roundg k1
          case measure => omega
          case rel => exact ⟨i + 1, by first | rw [HWN.out] | (congr 1 <;> omega), ⟨by have := HK.out; omega⟩, ⟨by omega⟩, HS⟩
    · have hie : i = m := by have := HI.out; omega
      have rd : decide ((i : Int) < (m : Int)) = false := decide_eq_false (by omega)
      go_wp2_with fail
      go_end0
      exact ⟨rfl, HS.out⟩
end Go.Proofs.Yteklabhmmfklbaa
