import Derived.Test.YtiabggpijomjmaaDoorPx8
import Derived.Test.YtiabggpijomjmaaDoorPlA
namespace Go.Proofs.YtiabggpijomjmaaDoor
open Go.RowKit Print Go.Proofs.YtiabggpijomjmaaDoorW.PrintWords Go.Proofs.YtiabggpijomjmaaDoorW.PrintLast Go.Proofs.YtiabggpijomjmaaDoorW.PrintMore
theorem decFrom_len : ∀ d (s : ByteArray) (acc : List S53), (decFrom d s acc).1.length ≤ acc.length + d
  | 0, s, acc => by rw [decFrom]; exact Nat.le_refl _
  | d + 1, s, acc => by
    rw [decFrom]
    by_cases hz : s.size = 0
    · rw [if_pos hz]; exact Nat.le_add_right _ _
    · rw [if_neg hz]
      cases raw1 s with
      | none => exact Nat.zero_le _
      | some p =>
        obtain ⟨x, n⟩ := p
        show (if okV x.f0 x.f1 x.f2 = true then decFrom d (s.extract n s.size) (acc ++ [x]) else ([], 31)).1.length ≤ _
        by_cases ho : okV x.f0 x.f1 x.f2 = true
        · rw [if_pos ho]
          have := decFrom_len d (s.extract n s.size) (acc ++ [x])
          rw [List.length_append] at this
          simp at this
          omega
        · rw [if_neg ho]; exact Nat.zero_le _
theorem keyBytes_ev (l : List S53) (s : ByteArray) (hl : l.length < 4398046511104) (hw : wtFrom l l.length 0 < 140737488355328) (hs : s.size < 4398046511104) (hsure : marqueelaw04_sure.f = some true) :
    Ev (fun k => marqueelaw04_KeyBytes.f k l s) true := by
  have ht : marqueelaw04_twin.f l = some l := by unfold marqueelaw04_twin.f; rw [if_pos (by simpa using hl)]; rfl
  have hd := decFrom_len s.size s []
  simp only [List.length_nil, Nat.zero_add] at hd
  have hrd : Ev (fun k => marqueeref03_SameRow.f k (decV s).1 (decV s).1) true := by
    have := rRow_ev (decV s).1 (decV s).1 (by unfold decV; omega)
    rwa [rowV_self] at this
  have hrl : Ev (fun k => marqueeref03_SameRow.f k l l) true := by
    have := rRow_ev l l (by omega)
    rwa [rowV_self] at this
  unfold marqueelaw04_KeyBytes.f
  rw [ht]
  simp only [Option.bind_some]
  refine Ev.bind (kEnc_ev l (by omega) hw) (Ev.bind (rEnc_ev l (by omega) hw) (Ev.bind (kDec_ev s hs) (Ev.bind (rDec_ev s hs) ?_)))
  refine Ev.congr (fun k => by rw [if_pos rfl, if_pos rfl]) (Ev.bind hrd ?_)
  refine Ev.congr (fun k => by rw [if_pos rfl, if_pos rfl]) (Ev.bind hrl ?_)
  exact Ev.congr (fun k => by rw [if_pos rfl, hsure]; rfl) (Ev.now _)
end Go.Proofs.YtiabggpijomjmaaDoor
