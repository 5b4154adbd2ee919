/- The runes of a text of runes: plain Lean. -/
import Derived.Test.YtfkianfddjccgaaDoorList
namespace Go.Proofs.YtfkianfddjccgaaDoor.U
open Go.RowKit Go.Proofs.YtfkianfddjccgaaDoorW.PrintWords

theorem properZ_proper (r : Int) : Utf.Proper (properZ r) := by
  unfold properZ Utf.Proper
  split
  · assumption
  · omega
theorem text_proper (l : List Int) : (l.map properZ).flatMap Lib.encodeRune = l.flatMap Lib.encodeRune := by
  induction l with
  | nil => rfl
  | cons r l ih => rw [List.map_cons, List.flatMap_cons, List.flatMap_cons, ih, encode_proper]
theorem textZ_runes (l : List Int) : Utf.runes (textZ l).data.toList = l.map properZ := by
  rw [textZ_list, ← text_proper]
  exact Utf.runes_text _ (by
    intro r hr
    obtain ⟨x, _, rfl⟩ := List.mem_map.1 hr
    exact properZ_proper x)
theorem textZ_right (l : List Int) : Lib.validD (textZ l).data.toList = true := by
  rw [textZ_list, ← text_proper, Utf.validD_right]
  exact Utf.right_text _ (by
    intro r hr
    obtain ⟨x, _, rfl⟩ := List.mem_map.1 hr
    exact properZ_proper x)
theorem textZ_count (l : List Int) : (Utf.pcs (textZ l).data.toList).length = l.length := by
  have := congrArg List.length (textZ_runes l)
  unfold Utf.runes at this
  simpa using this

end Go.Proofs.YtfkianfddjccgaaDoor.U
