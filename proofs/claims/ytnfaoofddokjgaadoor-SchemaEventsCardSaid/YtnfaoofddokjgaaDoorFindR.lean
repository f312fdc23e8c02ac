import Derived.Test.YtnfaoofddokjgaaDoorFind
namespace Go.Proofs.YtnfaoofddokjgaaDoor
open Go.RowKit Print Go.Proofs.YtnfaoofddokjgaaDoorW.PrintWords Go.Proofs.YtnfaoofddokjgaaDoorW.PrintLast Go.Proofs.YtnfaoofddokjgaaDoorW.PrintMore
set_option linter.unusedVariables false
set_option linter.unusedSimpArgs false
set_option maxHeartbeats 4000000 in
set_option maxRecDepth 100000 in
theorem rfind_any (s : ByteArray) (A : Option Addr) (c : Nat) (l : List (ByteArray × List S40)) (w : World) (hl : Kd.C k24 w A l.length l) (hc : l.length ≤ c) :
    Calls Tryd.prog 22 #[.slice A l.length c, .string s] w (FndP w (fnd s l)) := by
  have hu24 := Tryd.underlying24
  have HL := Aside0.mk hl
  have hmx : (l.length : Int) ≤ 9223372036854775807 := by have := Kd.C_max hl; omega
  have HX := Aside0.mk (And.intro (heap_alloc_new w (.cells #[.string ⟨#[]⟩, .slice none 0 0] 24)) (below_alloc (Below.refl w.heap.size w) (.cells #[.string ⟨#[]⟩, .slice none 0 0] 24)))
  clear hl
  go_enter Tryd.func22, Tryd.ntmps22
  go_upto_region 1 with fail
  go_wp2
  go_loopg [6] l.length (fun kq v6 wr => ∃ i : Int, v6 = .int .i64 i ∧ Aside0 (0 ≤ i ∧ i + kq = l.length ∧ whereFrom s l 0 = whereFrom s (l.drop i.toNat) i.toNat) ∧ Aside0 (wr.heap[w.heap.size]? = some (.cells #[.string ⟨#[]⟩, .slice none 0 0] 24 (0, 0)) ∧ Below w.heap.size w wr))
  case atStart => exact ⟨0, rfl, ⟨Int.le_refl _, by omega, rfl⟩, ⟨HX.out⟩⟩
  case round =>
    clear HX
    obtain ⟨i, rfl, HK, HB⟩ := hrel
    have i0 := HK.out.1
    have ik := HK.out.2.1
    have k1 := HB.out.1
    have v0 := blk_cell k1 0
    have v1 := blk_cell k1 1
    have f0 := blk_frozen k1 0
    have f1 := blk_frozen k1 1
    clear k1
    by_cases hi : i < l.length
    · obtain ⟨gk, rfl⟩ : ∃ j, gk = j + 1 := ⟨gk - 1, by omega⟩
      have hii : i + 1 ≤ 9223372036854775807 := by omega
      obtain ⟨ad, B, b, rfl, q0, q1, hb, hcc⟩ := at24 HL.out i i0 hi
      have z0 := pw_cell_below HB.out.2 q0
      have z1 := pw_cell_below HB.out.2 q1
      have HQ := Aside0.mk (And.intro hb hcc)
      have hne : w.heap.size ≠ (ad.add (i.toNat * 2)).block := by have := World.block_lt_of_cell? w _ q0; omega
      clear q0 q1 hb hcc
      have HD := drop_rd i0 hi
      have HK2 : Aside0 (whereFrom s l 0 = if ((rd24 l i).1.toList == s.toList) = true then i.toNat else whereFrom s (l.drop (i.toNat + 1)) (i.toNat + 1)) := ⟨by rw [HK.out.2.2, HD]; rfl⟩
      clear HD
      obtain ⟨bb, hb⟩ : ∃ bb, ((rd24 l i).1.toList == s.toList) = bb := ⟨_, rfl⟩
      rw [hb] at HK2
      cases bb
      · have HK3 : Aside0 (whereFrom s l 0 = whereFrom s (l.drop (i.toNat + 1)) (i.toNat + 1)) := ⟨by simpa using HK2.out⟩
        clear HK2
        go_wp2
        go_roundg gk
        case measure => omega
        case rel =>
          have e : (i + 1).toNat = i.toNat + 1 := by omega
          exact ⟨i + 1, rfl, ⟨by omega, by omega, by rw [e]; exact HK3.out⟩, HB⟩
      · have HK3 : Aside0 (whereFrom s l 0 = i.toNat) := ⟨by simpa using HK2.out⟩
        clear HK2
        have hfd : fnd s l = ((rd24 l i).1, (rd24 l i).2, true) := by
          unfold fnd
          rw [HK3.out, if_pos (by omega)]
          have : ((i.toNat : Nat) : Int) = i := by omega
          rw [this]
        have HFD := Aside0.mk hfd
        clear hfd
        go_wp2
        have hcell := blk_put (cs' := #[.string (rd24 l i).1, .slice B (rd24 l i).2.length b]) (blk_put (cs' := #[.string (rd24 l i).1, .slice none 0 0]) HB.out.1 0 (.string (rd24 l i).1) rfl) 1 (.slice B (rd24 l i).2.length b) rfl
        refine bodyPost_ret (results_ct rfl _ _ w.heap.size 24 #[.string (rd24 l i).1, .slice B (rd24 l i).2.length b] (0, 0) _ rfl hcell Tryd.underlying24 rfl (by kernel_rfl)) rfl ?_
        have hbl := below_set (j := 1) (v := .slice B (rd24 l i).2.length b) (below_set (j := 0) (v := .string (rd24 l i).1) HB.out.2 (Nat.le_refl _)) (Nat.le_refl _)
        rw [HFD.out]
        exact ⟨B, b, rfl, HQ.out.1, Kd.C_below HQ.out.2 hbl, hbl⟩
    · have hfd : fnd s l = (⟨#[]⟩, [], false) := by
        have h := HK.out.2.2
        rw [List.drop_eq_nil_of_le (by omega)] at h
        have h2 : whereFrom s l 0 = i.toNat := h
        unfold fnd
        rw [if_neg (by omega)]
      have HFD := Aside0.mk hfd
      clear hfd
      go_wp2
      have hcell := blk_put (cs' := #[.string ⟨#[]⟩, .slice none 0 0]) (blk_put (cs' := #[.string ⟨#[]⟩, .slice none 0 0]) HB.out.1 0 (.string ⟨#[]⟩) rfl) 1 (.slice none 0 0) rfl
      refine bodyPost_ret (results_ct rfl _ _ w.heap.size 24 #[.string ⟨#[]⟩, .slice none 0 0] (0, 0) _ rfl hcell Tryd.underlying24 rfl (by kernel_rfl)) rfl ?_
      rw [HFD.out]
      exact ⟨none, 0, rfl, Nat.le_refl _, ⟨rfl, by simp, fun h => absurd h (by simp)⟩, below_set (below_set HB.out.2 (Nat.le_refl _)) (Nat.le_refl _)⟩
end Go.Proofs.YtnfaoofddokjgaaDoor
