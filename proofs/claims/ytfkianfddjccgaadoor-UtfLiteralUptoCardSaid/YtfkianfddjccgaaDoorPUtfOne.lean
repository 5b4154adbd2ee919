/- Plain law: whatever literal says a text, Quote's is one of them, and reads alike. -/
import Derived.Test.YtfkianfddjccgaaDoorUL3x3
import Derived.Test.YtfkianfddjccgaaDoorUq
namespace Go.Proofs.YtfkianfddjccgaaDoor.U
open Go.RowKit Go.Proofs.YtfkianfddjccgaaDoorW.PrintWords

theorem said_flat : ∀ rs : List Int, (rs.flatMap saidB).length ≤ 6 * rs.length
  | [] => Nat.le_refl _
  | r :: rs => by
    have := said_flat rs
    have := saidB_length r
    rw [List.flatMap_cons, List.length_append, List.length_cons]
    omega
theorem lit_length (rs : List Int) : (litB rs).length ≤ 6 * rs.length + 2 := by
  have := said_flat rs
  unfold litB
  rw [List.length_append, List.length_cons, List.length_cons, List.length_nil]
  omega
theorem quote_textZ (rs : List Int) (hp : ∀ r ∈ rs, Utf.Proper r) (hs : (textZ rs).size ≤ 17592186044416) : utf_Quote.f (textZ rs) = some ⟨(litB rs).toArray⟩ := by
  unfold utf_Quote.f
  rw [if_pos hs, textZ_list, Utf.runes_text rs hp]
  rfl

theorem pure_UtfOne (a0 : ByteArray) (h0 : a0.size ≤ 1048576) : ∃ k, hallmarklaw02_UtfOne.f k a0 = some true := by
  refine ⟨8, ?_⟩
  have e1 : utf_Unquote.f a0 0 = some (unqAt a0 0) := if_pos (by omega)
  unfold hallmarklaw02_UtfOne.f
  rw [fixed_at 8 (Nat.le_refl _)]
  simp only [Option.bind_some, if_true, e1]
  rcases unqAt_shape a0 0 with ⟨h1, h2⟩ | ⟨qs, q, hp, he, hq, hb, hl⟩
  · have e0 : ByteArray.empty.toList = [] := by simp [ByteArray.toList_eq]
    rw [if_neg h1, h2, e0]
    rfl
  · have ht := textZ_size qs
    have hll := lit_length qs
    have e2 := quote_textZ qs hp (by omega)
    have hz : (⟨(litB qs).toArray⟩ : ByteArray).size = (litB qs).length := by
      rw [Lib.size_eq]
    have e3 : utf_Unquote.f ⟨(litB qs).toArray⟩ 0 = some (textZ qs, ((litB qs).length : Int), 0) := by
      have := unqAt_lit ⟨(litB qs).toArray⟩ 0 qs [] hp (by simp)
      rw [Nat.zero_add] at this
      have e : unqAt ⟨(litB qs).toArray⟩ 0 = (textZ qs, ((litB qs).length : Int), 0) := this
      unfold utf_Unquote.f
      rw [if_pos (by omega), e]
    have e4 : utf_Valid.f (textZ qs) = some true := by
      unfold utf_Valid.f
      rw [if_pos (by omega), textZ_list, Utf.validD_right, Utf.right_text qs hp]
    have hw : wrap64 (((q + 1 : Nat) : Int) - 1) = (q : Int) := by unfold wrap64; omega
    rw [he]
    simp only [if_true, e2, e3, e4, Option.bind_some]
    rw [hz, if_pos rfl, if_pos (by omega), hw, if_pos (by omega), if_pos (by omega), hb]
    rfl

end Go.Proofs.YtfkianfddjccgaaDoor.U
