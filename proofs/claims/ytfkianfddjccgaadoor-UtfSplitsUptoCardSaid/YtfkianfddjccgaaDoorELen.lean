/- The contracts of utf.Len and utf.Valid in the printer's form. -/
import Derived.Test.YtfkianfddjccgaaDoorU0
import Derived.Test.YtfkianfddjccgaaDoorUtf
import Derived.Test.YtfkianfddjccgaaDoorShelf
import Derived.Test.YtfkianfddjccgaaDoorTabs
import Derived.Shelf.Unicode.ValidAny
namespace Go.Proofs.YtfkianfddjccgaaDoor.U
open Go.RowKit Go.Proofs.YtfkianfddjccgaaDoorW.PrintWords

def utf_Len.f (a0 : ByteArray) : Option Int := if a0.size ≤ 140737488351232 then some ((Utf.pcs a0.data.toList).length : Int) else none

theorem utf_Len.calls (a0 : ByteArray) (r : Int) (w : World) (h : utf_Len.f a0 = some r) :
    Calls Tryd.prog 19 #[.string a0] w fun e w' => e = .returned (.int .i64 r) ∧ Below w.heap.size w w' := by
  unfold utf_Len.f at h
  split at h
  case isFalse => cases h
  rename_i hs
  obtain rfl := Option.some.inj h
  clear h
  go_enter Tryd.func19, Tryd.ntmps19
  go_wp2_with (go_at_call 46; refine (Tryd.utf8_RuneCountInString a0 _ (by omega)).mono ?_)
  rintro e w1 ⟨rfl, pos, rfl⟩
  go_wp2
  go_ret
  exact ⟨congrArg (fun n : Nat => Ending.returned (.int .i64 (n : Int))) (Utf.runeCount_eq a0), ((Below.refl _ w).alloc (Nat.le_refl _) _)⟩

end Go.Proofs.YtfkianfddjccgaaDoor.U
