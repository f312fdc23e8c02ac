import Derived.Test.YtnfaoofddokjgaaDoorPx0
import Derived.Lib.ConvBytes
namespace Go.Proofs.YtnfaoofddokjgaaDoor.Print
open Go.RowKit Go.Proofs.YtnfaoofddokjgaaDoorW.PrintWords Go.Proofs.YtnfaoofddokjgaaDoorW.PrintLast Go.Proofs.YtnfaoofddokjgaaDoorW.PrintMore
/-- May this byte stand at place i of a name? -/
def goodC (i : Nat) (c : Int) : Bool := c == 95 || (decide (97 ≤ c) && decide (c ≤ 122)) || (decide (65 ≤ c) && decide (c ≤ 90)) || (decide (0 < i) && decide (48 ≤ c) && decide (c ≤ 57))
def nameB (s : ByteArray) : Bool := (List.range s.size).all (fun i => goodC i (bt s i)) && (decide (1 ≤ s.size) && decide (s.size ≤ 64))
def schema_Name.f (s : ByteArray) : Option Bool := if s.size ≤ 9223372036854775807 then some (nameB s) else none
theorem bytes_step {w : World} {s : ByteArray} : ∃ cap W1, (convert 9 54 (.string s)).run Tryd.prog w = .ok (.slice (some ⟨w.heap.size, 0, none⟩) s.size cap) W1 ∧ Below w.heap.size w W1 ∧ ∀ k : Nat, k < s.size → W1.cell? ⟨w.heap.size, k, none⟩ = some (.int .u8 (bt s k)) := by
  refine ⟨_, _, Lib.run_convert_string_bytes (P := Tryd.prog) w 9 54 5 s Tryd.underlying9 Tryd.underlying54 Tryd.underlying5, ?_, ?_⟩
  · exact ⟨rfl, rfl, rfl, by rw [Lib.bytesWorld_size]; omega, fun i hi => Lib.bytesWorld_at_old w 5 s i hi⟩
  · intro k hk
    rw [Lib.bytesWorld_cell w 5 s k hk]
    have : bt s k = ((s[k]'hk).toNat : Int) := by unfold bt; rw [dif_pos (by simpa using hk)]; rfl
    rw [this]
    have h2 : k < s.data.toList.length := by simpa using hk
    rw [show s.data.toList.getD k 0 = s[k]'hk from by
      rw [List.getD_eq_getElem?_getD, List.getElem?_eq_getElem h2]; rfl]
def PostN (s : ByteArray) (w : World) (e : Ending) (w' : World) : Prop := e = .returned (.bool (nameB s)) ∧ Below w.heap.size w w'
theorem nameB_false {s : ByteArray} {k : Nat} (hk : k < s.size) (h : goodC k (bt s k) = false) : nameB s = false := by
  unfold nameB
  rw [Bool.and_eq_false_iff]
  left
  rw [List.all_eq_false]
  exact ⟨k, List.mem_range.2 hk, by rw [h]; simp⟩
theorem nameB_true {s : ByteArray} (h : ∀ j, j < s.size → goodC j (bt s j) = true) : nameB s = (decide (1 ≤ s.size) && decide (s.size ≤ 64)) := by
  unfold nameB
  have : (List.range s.size).all (fun i => goodC i (bt s i)) = true := List.all_eq_true.2 fun j hj => h j (List.mem_range.1 hj)
  rw [this]; rfl
theorem goodC_class (k : Nat) (c : Int) : (goodC k c = true ∧ (c = 95 ∨ (97 ≤ c ∧ c ≤ 122) ∨ (65 ≤ c ∧ c ≤ 90) ∨ (0 < k ∧ 48 ≤ c ∧ c ≤ 57))) ∨ (goodC k c = false ∧ ¬ c = 95 ∧ ¬ (97 ≤ c ∧ c ≤ 122) ∧ ¬ (65 ≤ c ∧ c ≤ 90) ∧ ¬ (0 < k ∧ 48 ≤ c ∧ c ≤ 57)) := by
  cases h : goodC k c
  · right
    refine ⟨rfl, ?_⟩
    simp [goodC] at h
    omega
  · left
    refine ⟨rfl, ?_⟩
    simp [goodC] at h
    omega
set_option maxHeartbeats 4000000 in
set_option maxRecDepth 100000 in
theorem schema_Name.calls (s : ByteArray) (r : Bool) (w : World) (h : schema_Name.f s = some r) :
    Calls Tryd.prog 12 #[.string s] w fun e w' => e = .returned (.bool r) ∧ Below w.heap.size w w' := by
  have hs : s.size ≤ 9223372036854775807 := by
    unfold schema_Name.f at h
    split at h
    · assumption
    · cases h
  have hr : r = nameB s := by unfold schema_Name.f at h; rw [if_pos hs] at h; exact (Option.some.inj h).symm
  subst hr
  clear h
  obtain ⟨cap, W1, hconv, hB1, hcells⟩ := @bytes_step w s
  have HB := Aside0.mk hB1
  have HC := Aside0.mk hcells
  clear hB1 hcells
  show Calls Tryd.prog 12 #[.string s] w (PostN s w)
  go_enter Tryd.func12, Tryd.ntmps12
  go_wp2
  clear hconv
  go_loop [8] (fun i => ∃ k : Nat, k ≤ s.size ∧ i = .int .i64 k ∧ Aside0 (∀ j, j < k → goodC j (bt s j) = true)) (fun i => s.size - (intOf i).toNat)
  case atStart => exact ⟨0, Nat.zero_le _, rfl, ⟨fun j hj => by omega⟩⟩
  case round =>
    obtain ⟨k, hk, rfl, HG⟩ := hrel
    by_cases hlt : k < s.size
    · have hc := HC.out k hlt
      have hb := bt_range s k
      obtain ⟨c, hcc⟩ : ∃ c, bt s k = c := ⟨_, rfl⟩
      have HN : Aside0 (goodC k c = false → nameB s = false) := ⟨fun h => nameB_false hlt (by rw [hcc]; exact h)⟩
      have HY : Aside0 (goodC k c = true → ∀ j, j < k + 1 → goodC j (bt s j) = true) := ⟨fun h j hj => by
        by_cases e : j = k
        · subst e; rw [hcc]; exact h
        · exact HG.out j (by omega)⟩
      rw [hcc] at hc hb
      clear hcc
      rcases goodC_class k c with ⟨hg, hcl⟩ | ⟨hg, h1, h2, h3, h4⟩
      · replace HY := Aside0.mk (HY.out hg)
        clear hg HN
        rcases hcl with hcl | ⟨hcl, hcl2⟩ | ⟨hcl, hcl2⟩ | ⟨hk0, hcl, hcl2⟩
        · subst hcl
          go_wp2
          go_round
          case rel => exact ⟨k + 1, by omega, by go_num, HY⟩
          case measure => simp [intOf]; omega
        · go_wp2
          go_round
          case rel => exact ⟨k + 1, by omega, by go_num, HY⟩
          case measure => simp [intOf]; omega
        · go_wp2
          go_round
          case rel => exact ⟨k + 1, by omega, by go_num, HY⟩
          case measure => simp [intOf]; omega
        · have hk0' : (0 : Int) < (k : Int) := by omega
          go_wp2
          go_round
          case rel => exact ⟨k + 1, by omega, by go_num, HY⟩
          case measure => simp [intOf]; omega
      · replace HN := Aside0.mk (HN.out hg)
        clear hg HY
        have h2' : c < 97 ∨ 122 < c := by omega
        have h3' : c < 65 ∨ 90 < c := by omega
        have h4' : (k : Int) ≤ 0 ∨ c < 48 ∨ 57 < c := by omega
        have h1' : (c == 95) = false := by simpa using h1
        clear h1 h2 h3 h4
        rcases h2' with h2 | h2 <;> rcases h3' with h3 | h3 <;> rcases h4' with h4 | h4 | h4
        all_goals
          first
          | (exfalso; omega)
          | (go_wp2
             all_goals
               go_ret
               exact ⟨by rw [HN.out]; rfl, HB.out⟩)
    · have HF := nameB_true (s := s) (fun j hj => HG.out j (by omega))
      by_cases h1 : 1 ≤ s.size
      · by_cases h2 : s.size ≤ 64
        · have HN : Aside0 (nameB s = true) := ⟨by rw [HF]; simp [h1, h2]⟩
          have h2d : decide ((s.size : Int) ≤ 64) = true := decide_eq_true (by omega)
          clear HF
          go_wp2
          all_goals
            go_ret
            exact ⟨by rw [HN.out]; rfl, HB.out⟩
        · have HN : Aside0 (nameB s = false) := ⟨by rw [HF]; simp [h2]⟩
          have h2d : decide ((s.size : Int) ≤ 64) = false := decide_eq_false (by omega)
          clear HF
          go_wp2
          all_goals
            go_ret
            exact ⟨by rw [HN.out]; rfl, HB.out⟩
      · have HN : Aside0 (nameB s = false) := ⟨by rw [HF]; simp [h1]⟩
        clear HF
        go_wp2
        all_goals
          go_ret
          exact ⟨by rw [HN.out]; rfl, HB.out⟩
end Go.Proofs.YtnfaoofddokjgaaDoor.Print
