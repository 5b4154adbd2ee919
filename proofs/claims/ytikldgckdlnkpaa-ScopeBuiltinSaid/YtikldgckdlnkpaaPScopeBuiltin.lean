/- Plain law: what ScopeBuiltin's functions compute agrees, for every name of at most 2^47 - 4096 bytes and every number. -/
import Derived.Test.YtikldgckdlnkpaaUL1
import Derived.Test.YtikldgckdlnkpaaContains
namespace Go.Proofs.Ytikldgckdlnkpaa.U
open Go.RowKit Go.Proofs.YtikldgckdlnkpaaW.PrintWords

def noneWords : List (List UInt8) := [[101, 109, 112, 116, 121], [101, 114, 114, 111, 114], [108, 101, 110, 103, 116, 104], [117, 116, 102, 56, 98, 121, 116, 101, 108, 101, 110, 103, 116, 104], [110, 111, 116], [107, 101, 121, 115], [116, 121, 112, 101], [116, 111, 115, 116, 114, 105, 110, 103], [116, 111, 110, 117, 109, 98, 101, 114], [116, 111, 106, 115, 111, 110], [102, 114, 111, 109, 106, 115, 111, 110], [97, 115, 99, 105, 105, 95, 100, 111, 119, 110, 99, 97, 115, 101], [97, 115, 99, 105, 105, 95, 117, 112, 99, 97, 115, 101], [101, 120, 112, 108, 111, 100, 101], [105, 109, 112, 108, 111, 100, 101], [114, 101, 118, 101, 114, 115, 101], [115, 111, 114, 116], [109, 105, 110], [109, 97, 120], [117, 110, 105, 113, 117, 101], [97, 100, 100], [102, 108, 97, 116, 116, 101, 110], [116, 114, 97, 110, 115, 112, 111, 115, 101], [97, 98, 115], [116, 111, 97, 114, 114, 97, 121]]
def oneWords : List (List UInt8) := [[101, 114, 114, 111, 114], [112, 97, 116, 104], [104, 97, 115], [99, 111, 110, 116, 97, 105, 110, 115], [115, 116, 97, 114, 116, 115, 119, 105, 116, 104], [101, 110, 100, 115, 119, 105, 116, 104], [108, 116, 114, 105, 109, 115, 116, 114], [114, 116, 114, 105, 109, 115, 116, 114], [115, 112, 108, 105, 116], [106, 111, 105, 110], [105, 110, 100, 105, 99, 101, 115], [95, 115, 111, 114, 116, 95, 98, 121], [95, 103, 114, 111, 117, 112, 95, 98, 121], [95, 117, 110, 105, 113, 117, 101, 95, 98, 121], [95, 109, 105, 110, 95, 98, 121], [95, 109, 97, 120, 95, 98, 121], [103, 101, 116, 112, 97, 116, 104], [100, 101, 108, 112, 97, 116, 104, 115]]
def twoWords : List (List UInt8) := [[114, 97, 110, 103, 101], [115, 101, 116, 112, 97, 116, 104]]
def builtinB (l : List UInt8) (n : Int) : Bool := if n = 0 then decide (l ∈ noneWords) else if n = 1 then decide (l ∈ oneWords) else if n = 2 then decide (l ∈ twoWords) else false

theorem refBuiltin_eq (s : ByteArray) (n : Int) : hallmarkref19_Builtin.f s n = some (builtinB s.data.toList n) := by
  have h : hallmarkref19_Builtin.f s n = if n = 0 then chain noneWords s.toList else if n = 1 then chain oneWords s.toList else if n = 2 then (if s.toList = [114, 97, 110, 103, 101] then some true else some (s.toList == [115, 101, 116, 112, 97, 116, 104])) else some false := rfl
  rw [h, chain_eq, chain_eq, Lib.toList_data]
  unfold builtinB
  by_cases h0 : n = 0
  · rw [if_pos h0, if_pos h0]
  · rw [if_neg h0, if_neg h0]
    by_cases h1 : n = 1
    · rw [if_pos h1, if_pos h1]
    · rw [if_neg h1, if_neg h1]
      by_cases h2 : n = 2
      · rw [if_pos h2, if_pos h2]
        unfold twoWords
        generalize s.data.toList = l
        by_cases e : l = [114, 97, 110, 103, 101]
        · rw [if_pos e]; simp [e]
        · rw [if_neg e]
          by_cases e2 : l = [115, 101, 116, 112, 97, 116, 104]
          · simp [e2]
          · have : (l == [115, 101, 116, 112, 97, 116, 104]) = false := by rw [beq_eq_false_iff_ne]; exact e2
            simp [e, e2]
      · rw [if_neg h2, if_neg h2]

theorem contains_blank : ∀ l : List UInt8, Lib.contains l [32] = decide (32 ∈ l)
  | [] => by rw [contains_nil (by simp)]; simp
  | a :: l => by
    rw [contains_cons, contains_blank l]
    by_cases h : (32 : UInt8) = a
    · subst h; simp [List.isPrefixOf]
    · have : ((32 : UInt8) == a) = false := by rw [beq_eq_false_iff_ne]; exact h
      simp [List.isPrefixOf, this, h]

theorem plain_eq (s : ByteArray) : scope_plain.f s = some (decide (s.data.toList ≠ []) && decide ((32 : UInt8) ∉ s.data.toList)) := by
  unfold scope_plain.f strings_Contains.f
  rw [if_pos (show (⟨#[32]⟩ : ByteArray).size = 1 ∨ s.size < 4294967281 from .inl rfl), Lib.toList_data]
  have : (⟨#[32]⟩ : ByteArray).data.toList = [32] := rfl
  rw [this, contains_blank]
  generalize s.data.toList = l
  by_cases h : l = []
  · rw [if_pos h]; simp [h]
  · rw [if_neg h]; simp [h]

theorem joined_data (s : ByteArray) : (((⟨#[32]⟩ : ByteArray) ++ s) ++ (⟨#[32]⟩ : ByteArray)).data.toList = 32 :: (s.data.toList ++ [32]) := by
  simp [ByteArray.data_append]

theorem no_blank_words : (∀ w ∈ noneWords, (32 : UInt8) ∉ w ∧ w ≠ []) ∧ (∀ w ∈ oneWords, (32 : UInt8) ∉ w ∧ w ≠ []) ∧ (∀ w ∈ twoWords, (32 : UInt8) ∉ w ∧ w ≠ []) := by decide

theorem asks (s : ByteArray) (ws : List (List UInt8)) (c : ByteArray) (hc : c.data.toList = 32 :: lined ws) (hz : c.size < 4294967281) (hw : ∀ w ∈ ws, (32 : UInt8) ∉ w ∧ w ≠ []) (h0 : s.data.toList ≠ []) (h1 : (32 : UInt8) ∉ s.data.toList) :
    strings_Contains.f c (((⟨#[32]⟩ : ByteArray) ++ s) ++ (⟨#[32]⟩ : ByteArray)) = some (decide (s.data.toList ∈ ws)) := by
  unfold strings_Contains.f
  rw [if_pos (.inr hz), joined_data, hc, contains_words _ h0 h1 ws (fun w h => (hw w h).1)]

set_option maxRecDepth 100000 in
theorem Builtin_eq (s : ByteArray) (hs : s.size ≤ 140737488351232) (n : Int) : scope_Builtin.f s n = some (builtinB s.data.toList n) := by
  obtain ⟨w0, w1, w2⟩ := no_blank_words
  unfold scope_Builtin.f
  rw [plain_eq]
  by_cases hp : s.data.toList ≠ [] ∧ (32 : UInt8) ∉ s.data.toList
  · obtain ⟨h0, h1⟩ := hp
    have : (decide (s.data.toList ≠ []) && decide ((32 : UInt8) ∉ s.data.toList)) = true := by simp [h0, h1]
    rw [this]
    simp only [Option.bind_some, if_true]
    rw [asks s noneWords _ (by decide) (by decide) w0 h0 h1, asks s oneWords _ (by decide) (by decide) w1 h0 h1, asks s twoWords _ (by decide) (by decide) w2 h0 h1]
    have a : 1 + s.size ≤ 9223372036854775807 := by omega
    have b : 1 + s.size + 1 ≤ 9223372036854775807 := by omega
    simp only [if_pos a, if_pos b]
    unfold builtinB
    simp only [Option.bind_some]
    by_cases e0 : n = 0
    · rw [if_pos e0, if_pos e0]
    · rw [if_neg e0, if_neg e0]
      by_cases e1 : n = 1
      · rw [if_pos e1, if_pos e1]
      · rw [if_neg e1, if_neg e1]
        by_cases e2 : n = 2
        · rw [if_pos e2, if_pos e2]
        · rw [if_neg e2, if_neg e2]
  · have : (decide (s.data.toList ≠ []) && decide ((32 : UInt8) ∉ s.data.toList)) = false := by
      by_cases h0 : s.data.toList = []
      · simp [h0]
      · have h1 : (32 : UInt8) ∈ s.data.toList := Classical.byContradiction fun h => hp ⟨h0, h⟩
        simp [h1]
    rw [this]
    simp only [Option.bind_some, Bool.false_eq_true, if_false]
    have out : ∀ ws : List (List UInt8), (∀ w ∈ ws, (32 : UInt8) ∉ w ∧ w ≠ []) → s.data.toList ∉ ws := fun ws hw h => hp ⟨(hw _ h).2, (hw _ h).1⟩
    unfold builtinB
    rw [decide_eq_false (out _ w0), decide_eq_false (out _ w1), decide_eq_false (out _ w2)]
    repeat' split
    all_goals rfl

theorem ScopeBuiltin_pure (s : ByteArray) (n : Int) (hs : s.size ≤ 140737488351232) (_ : (Lit.int .i64 n).wf = true) : hallmarklaw19_ScopeBuiltin.f s n = some true := by
  unfold hallmarklaw19_ScopeBuiltin.f
  rw [Builtin_eq s hs, refBuiltin_eq, Builtin_eq _ (by decide), Builtin_eq _ (by decide)]
  have h1 : builtinB (⟨#[112, 97, 116, 104]⟩ : ByteArray).data.toList 1 = true := by decide
  have h2 : builtinB (⟨#[112, 97, 116, 104]⟩ : ByteArray).data.toList 0 = false := by decide
  simp [h1, h2]

end Go.Proofs.Ytikldgckdlnkpaa.U
