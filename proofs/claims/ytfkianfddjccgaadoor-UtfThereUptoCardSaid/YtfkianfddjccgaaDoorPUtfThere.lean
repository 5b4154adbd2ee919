/- Plain law: a text's runes as a text. -/
import Derived.Test.YtfkianfddjccgaaDoorUL3x5
import Derived.Test.YtfkianfddjccgaaDoorList
namespace Go.Proofs.YtfkianfddjccgaaDoor.U
open Go.RowKit Go.Proofs.YtfkianfddjccgaaDoorW.PrintWords

theorem pure_UtfThere (a0 : ByteArray) (h0 : a0.size ≤ 1048576) : ∃ k, hallmarklaw02_UtfThere.f k a0 = some true := by
  refine ⟨a0.size + 10, ?_⟩
  have hl := runes_length a0
  have ht := textZ_size (Utf.runes a0.data.toList)
  have hp := Utf.runes_proper a0.data.toList
  have hv : Lib.validD (textZ (Utf.runes a0.data.toList)).data.toList = true := by
    rw [textZ_list, Utf.validD_right]
    exact Utf.right_text _ hp
  have hv2 : Lib.validD a0.data.toList = decide ((Utf.runes a0.data.toList).flatMap Lib.encodeRune = a0.data.toList) := by
    rw [Utf.validD_right]
    exact Utf.right_iff _
  have hr : Utf.runes (textZ (Utf.runes a0.data.toList)).data.toList = Utf.runes a0.data.toList := by
    rw [textZ_list]
    exact Utf.runes_text _ hp
  have e1 : utf_Runes.f a0 = some (Utf.runes a0.data.toList) := if_pos (by omega)
  have e2 : utf_Text.f (Utf.runes a0.data.toList) = some (textZ (Utf.runes a0.data.toList)) := if_pos (by omega)
  have e3 : utf_Len.f a0 = some ((Utf.runes a0.data.toList).length : Int) := by
    unfold utf_Len.f Utf.runes
    rw [if_pos (by omega), List.length_map]
  have e4 : utf_Valid.f (textZ (Utf.runes a0.data.toList)) = some true := by
    unfold utf_Valid.f
    rw [if_pos (by omega), hv]
  have e5 : utf_Valid.f a0 = some (decide ((Utf.runes a0.data.toList).flatMap Lib.encodeRune = a0.data.toList)) := by
    unfold utf_Valid.f
    rw [if_pos (by omega), hv2]
  have e6 : utf_Runes.f (textZ (Utf.runes a0.data.toList)) = some (Utf.runes a0.data.toList) := by
    unfold utf_Runes.f
    rw [if_pos (by omega), hr]
  have e7 := numbers_eq (Utf.runes a0.data.toList) (by omega) (fun r h => proper_32 r (hp r h)) (a0.size + 9) (by omega)
  have e8 := alike_eq (Utf.runes a0.data.toList) (by omega) (a0.size + 9) (by omega)
  unfold hallmarklaw02_UtfThere.f
  rw [fixed_at _ (by omega), e1]
  simp only [Option.bind_some, if_true]
  rw [e2]
  simp only [Option.bind_some]
  rw [e3]
  simp only [Option.bind_some, if_true]
  rw [e4]
  simp only [Option.bind_some, if_true]
  rw [e5]
  simp only [Option.bind_some]
  rw [eq_list, textZ_list]
  simp only [hallmarklaw02_UtfThere.j0, bne_self_eq_false, Bool.false_eq_true, if_false, e6, Option.bind_some, e7, e8]

end Go.Proofs.YtfkianfddjccgaaDoor.U
