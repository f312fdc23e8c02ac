import Derived.Test.YtiabggpijomjmaaDoorShelf
import Derived.Shelf.Unicode.ValidAny
namespace Go.Proofs.YtiabggpijomjmaaDoor.Print
open Go.RowKit
/-- The two tables of package unicode/utf8 are as their text lays them. -/
def LaidW (w : World) : Prop := Lib.Utf8Tabs (Tryd.laysValid_ren.g 3) (Tryd.laysValid_ren.g 4) w
theorem LaidW.below {w0 w' : World} (h : LaidW w0) (hb : Below w0.heap.size w0 w') : LaidW w' := Utf8Tabs_below h hb
def utf8_ValidString.f (s : ByteArray) : Option Bool := if s.size ≤ 9223372036854775807 then some (Lib.validD s.data.toList) else none
theorem utf8_ValidString.calls (s : ByteArray) (r : Bool) (w : World) (hld : LaidW w) (h : utf8_ValidString.f s = some r) :
    Calls Tryd.prog 33 #[.string s] w fun e w' => e = .returned (.bool r) ∧ Below w.heap.size w w' := by
  unfold utf8_ValidString.f at h
  split at h
  · obtain rfl := Option.some.inj h
    exact Any.utf8_ValidString Tryd.laysValid s w (by assumption) hld
  · cases h
end Go.Proofs.YtiabggpijomjmaaDoor.Print
