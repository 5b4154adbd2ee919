/- Plain law: runes as a text, as runes again. -/
import Derived.Test.YtfkianfddjccgaaDoorUL3x6
import Derived.Test.YtfkianfddjccgaaDoorList
namespace Go.Proofs.YtfkianfddjccgaaDoor.U
open Go.RowKit Go.Proofs.YtfkianfddjccgaaDoorW.PrintWords

theorem properZ_proper (r : Int) : Utf.Proper (properZ r) := by
  unfold properZ Utf.Proper
  split
  · assumption
  · omega
theorem text_proper (l : List Int) : (l.map properZ).flatMap Lib.encodeRune = l.flatMap Lib.encodeRune := by
  induction l with
  | nil => rfl
  | cons r l ih => rw [List.map_cons, List.flatMap_cons, List.flatMap_cons, ih, encode_proper]
theorem textZ_runes (l : List Int) : Utf.runes (textZ l).data.toList = l.map properZ := by
  rw [textZ_list, ← text_proper]
  exact Utf.runes_text _ (by
    intro r hr
    obtain ⟨x, _, rfl⟩ := List.mem_map.1 hr
    exact properZ_proper x)
theorem textZ_right (l : List Int) : Lib.validD (textZ l).data.toList = true := by
  rw [textZ_list, ← text_proper, Utf.validD_right]
  exact Utf.right_text _ (by
    intro r hr
    obtain ⟨x, _, rfl⟩ := List.mem_map.1 hr
    exact properZ_proper x)
theorem textZ_count (l : List Int) : (Utf.pcs (textZ l).data.toList).length = l.length := by
  have := congrArg List.length (textZ_runes l)
  unfold Utf.runes at this
  simpa using this

theorem isRune_eq (r : Int) : hallmarkref02_IsRune.f r = some (decide ((0 ≤ r ∧ r < 55296) ∨ (57343 < r ∧ r ≤ 1114111))) := by
  unfold hallmarkref02_IsRune.f
  by_cases a : r ≥ 0
  · rw [if_pos a]
    by_cases b : r ≤ 1114111
    · rw [if_pos b]
      by_cases c : r < 55296
      · rw [if_pos c]
        congr 1
        exact (decide_eq_true (Or.inl ⟨a, c⟩)).symm
      · rw [if_neg c]
        congr 1
        exact decide_eq_decide.2 ⟨fun g => Or.inr ⟨g, b⟩, fun g => by omega⟩
    · rw [if_neg b]
      congr 1
      exact (decide_eq_false (by omega)).symm
  · rw [if_neg a]
    congr 1
    exact (decide_eq_false (by omega)).symm

theorem back_loop (l : List Int) (hl : l.length ≤ 4194304) (hr : ∀ x ∈ l, -2147483648 ≤ x ∧ x ≤ 2147483647) : ∀ (n i k : Nat), i + n = l.length → n < k → hallmarklaw02_UtfBack.l0 k l (l.map properZ) i = some true
  | 0, i, k, hi, hk => by
    obtain ⟨k, rfl⟩ : ∃ m, k = m + 1 := ⟨k - 1, by omega⟩
    unfold hallmarklaw02_UtfBack.l0
    rw [if_neg (by omega)]
  | n + 1, i, k, hi, hk => by
    obtain ⟨k, rfl⟩ : ∃ m, k = m + 1 := ⟨k - 1, by omega⟩
    have hlt : i < l.length := by omega
    have h32 := hr l[i] (List.getElem_mem hlt)
    have ih := back_loop l hl hr n (i + 1) k (by omega) (by omega)
    have hw : wrap64 ((i : Int) + 1) = ((i + 1 : Nat) : Int) := by unfold wrap64; omega
    have hv : wrap64 (rd l i) = l[i] := by rw [rd_nat l i hlt]; unfold wrap64; omega
    have hp : rd (l.map properZ) i = properZ l[i] := by
      rw [rd_nat _ i (by rw [List.length_map]; exact hlt), List.getElem_map]
    unfold hallmarklaw02_UtfBack.l0
    rw [if_pos (by omega), if_pos (by omega), hv, isRune_eq, hw, ih, hp, rd_nat l i hlt, List.length_map]
    have hi2 : (i : Int) < (l.length : Int) := by omega
    simp only [Option.bind_some, hi2, if_true]
    unfold properZ
    by_cases c : (0 ≤ l[i] ∧ l[i] < 55296) ∨ (57343 < l[i] ∧ l[i] ≤ 1114111)
    · rw [if_pos c]
      simp only [c, decide_true, if_true]
    · rw [if_neg c]
      simp only [c, decide_false, Bool.false_eq_true, if_false, if_true]

theorem pure_UtfBack (l0 : List Int) (h0 : l0.length ≤ 1048576) (hr : ∀ x ∈ l0, (Lit.int .i32 x).wf = true) : ∃ k, hallmarklaw02_UtfBack.f k l0 = some true := by
  refine ⟨l0.length + 10, ?_⟩
  have h32 : ∀ x ∈ l0, -2147483648 ≤ x ∧ x ≤ 2147483647 := by
    intro x hx
    have := hr x hx
    unfold Lit.wf at this
    rw [Bool.and_eq_true, decide_eq_true_eq, decide_eq_true_eq] at this
    have m0 : IntKind.i32.min = -2147483648 := by decide
    have m1 : IntKind.i32.max = 2147483647 := by decide
    omega
  have ht := textZ_size l0
  have e1 := twin_eq l0 (by omega) (l0.length + 10) (by omega)
  have e2 : utf_Text.f l0 = some (textZ l0) := if_pos (by omega)
  have e3 : utf_Valid.f (textZ l0) = some true := by
    unfold utf_Valid.f
    rw [if_pos (by omega), textZ_right]
  have e4 : utf_Len.f (textZ l0) = some (l0.length : Int) := by
    unfold utf_Len.f
    rw [if_pos (by omega), textZ_count]
  have e5 : utf_Runes.f (textZ l0) = some (l0.map properZ) := by
    unfold utf_Runes.f
    rw [if_pos (by omega), textZ_runes]
  have e6 := back_loop l0 (by omega) h32 l0.length 0 (l0.length + 9) (by omega) (by omega)
  unfold hallmarklaw02_UtfBack.f
  rw [fixed_at _ (by omega), e1]
  simp only [Option.bind_some, if_true]
  rw [e2]
  simp only [Option.bind_some]
  rw [e3]
  simp only [Option.bind_some, if_true]
  rw [e4]
  simp only [Option.bind_some]
  simp only [hallmarklaw02_UtfBack.j0, bne_self_eq_false, Bool.false_eq_true, if_false, e5, Option.bind_some, List.length_map, if_true]
  exact e6

end Go.Proofs.YtfkianfddjccgaaDoor.U
