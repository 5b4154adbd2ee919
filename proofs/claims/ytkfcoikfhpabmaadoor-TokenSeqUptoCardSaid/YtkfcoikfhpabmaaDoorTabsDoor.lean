/- The world in which a row's call begins holds what the library's calls want: the tables as laid; and a world for the witness. -/
import Derived.Test.YtkfcoikfhpabmaaDoorTabs
import Derived.Test.YtkfcoikfhpabmaaDoorShelf
import Derived.Test.YtkfcoikfhpabmaaDoorCards
import Derived.Lib.LaidU8T
import Derived.Shelf.Vars
import Derived.LaidByTextLater
import Derived.MakeChecks
import Derived.WalkKit
import Derived.Lib.LaidTab
namespace Go.Proofs.YtkfcoikfhpabmaaDoor
open Go.RowKit

theorem u8x : Go.Proofs.U8Extra Tryd.prog Tryd.lays260_ren := ⟨by kernel_rfl, by kernel_rfl, by kernel_rfl, by kernel_rfl, by kernel_rfl, by kernel_rfl, by kernel_rfl⟩

theorem first_eq : Rows.laid_unicode_utf8_first = Lib.firstData := by kernel_rfl
theorem accept_eq : (Rows.laid_unicode_utf8_acceptRanges : DataW Unit) = Lib.acceptData := by kernel_rfl

theorem tabsOf {W : World} (h : W.ShapedOpen Tryd.prog) (hL : laidMetH Tryd.prog Rows.tokenKnownRow.laid W) : Tabs W := by
  rw [Go.MakeChecks.laidMetH_plain _ _ _ (by kernel_rfl)] at hL
  have h1 : Lib.VarReads Tryd.prog W "unicode/utf8.acceptRanges" Rows.laid_unicode_utf8_acceptRanges := Lib.laidMet.reads hL (by unfold Rows.tokenKnownRow; exact .head _)
  have h2 : Lib.VarReads Tryd.prog W "unicode/utf8.first" Rows.laid_unicode_utf8_first := Lib.laidMet.reads hL (by unfold Rows.tokenKnownRow; exact .tail _ (.head _))
  rw [accept_eq] at h1
  rw [first_eq] at h2
  exact ⟨Go.Proofs.cell_of_shapedOpen_int (P := Tryd.prog) (zero := #[.int .i64 0]) (t := 3) h (of_decide_eq_true (by kernel_rfl)) (by kernel_rfl) rfl (by kernel_rfl) (by kernel_rfl) Tryd.underlying3, Go.Proofs.utf8Tabs_of_readsT (Go.Proofs.U8Types.of260 Tryd.lays260) u8x h2 h1⟩

namespace Tabs0
/-- an object whose cells are these -/
def put (cs : List Value) : Obj → Obj
  | .cells _ t frozen => .cells cs.toArray t frozen
  | o => o
noncomputable def tabHeap (h : Array Obj) : Array Obj :=
  (h.modify 1 (put (Lib.firstTab.map fun c => Value.int .u8 c))).modify 2 (put (([128, 191, 160, 191, 128, 159, 144, 191, 128, 143, 0, 0, 0, 0, 0, 0, 0, 0, 0, 0, 0, 0, 0, 0, 0, 0, 0, 0, 0, 0, 0, 0] : List Int).map fun c => Value.int .u8 c))
noncomputable def laidWorld (os : Os) : World :=
  { World.holding Tryd.prog os ⟨#[], #[], []⟩ with heap := tabHeap (World.holding Tryd.prog os ⟨#[], #[], []⟩).heap }
theorem laid_try (os : Os) : laidMet Tryd.prog Rows.tokenKnownRow.laid ((laidWorld os).forCall (fun _ _ => 0) ⟨#[], #[], []⟩).memory :=
  laidMet_of_run' 8 (by kernel_rfl) (by kernel_rfl)
end Tabs0
end Go.Proofs.YtkfcoikfhpabmaaDoor
