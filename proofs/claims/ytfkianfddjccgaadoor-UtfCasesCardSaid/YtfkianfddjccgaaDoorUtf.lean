/- Texts as pieces: plain Lean over the model's own decoding of UTF-8; no program. -/
import Derived.Lib.MapLaws
import Derived.Lib.TrimUEq
import Derived.Lib.RuneBytes
import Derived.Lib.RuneCount
namespace Go.Proofs.YtfkianfddjccgaaDoor.Utf
open Go Go.Lib

/-- the pieces of a text: what each stands for, and how many bytes it has -/
def pieces : Nat → List UInt8 → List (Nat × Nat)
  | 0, _ => []
  | n + 1, l => if l = [] then [] else decodeL l :: pieces n (l.drop (decodeL l).2)
def pcs (l : List UInt8) : List (Nat × Nat) := pieces l.length l

theorem width_pos (l : List UInt8) (h : l ≠ []) : 1 ≤ (decodeL l).2 := by
  have h0 : 0 < l.length := by
    cases l with
    | nil => exact absurd rfl h
    | cons _ _ => simp
  have hz : 0 < (⟨l.toArray⟩ : ByteArray).size := by
    show 0 < l.toArray.size
    simpa using h0
  exact decode_width_pos ⟨l.toArray⟩ 0 hz

theorem pieces_nil (n : Nat) : pieces n [] = [] := by cases n <;> rfl

theorem pieces_fuel : ∀ (n m : Nat) (l : List UInt8), l.length ≤ n → l.length ≤ m → pieces n l = pieces m l
  | 0, m, l, hn, _ => by
    have : l = [] := List.eq_nil_of_length_eq_zero (by omega)
    subst this
    rw [pieces_nil, pieces_nil]
  | n + 1, 0, l, _, hm => by
    have : l = [] := List.eq_nil_of_length_eq_zero (by omega)
    subst this
    rw [pieces_nil, pieces_nil]
  | n + 1, m + 1, l, hn, hm => by
    unfold pieces
    by_cases h : l = []
    · rw [if_pos h, if_pos h]
    · rw [if_neg h, if_neg h]
      have := width_pos l h
      rw [pieces_fuel n m (l.drop (decodeL l).2) (by rw [List.length_drop]; omega) (by rw [List.length_drop]; omega)]

theorem pcs_nil : pcs [] = [] := rfl
theorem pcs_step (l : List UInt8) (h : l ≠ []) : pcs l = decodeL l :: pcs (l.drop (decodeL l).2) := by
  unfold pcs
  have h0 : 0 < l.length := by
    cases l with
    | nil => exact absurd rfl h
    | cons _ _ => simp
  obtain ⟨n, hn⟩ : ∃ n, l.length = n + 1 := ⟨l.length - 1, by omega⟩
  have hw := width_pos l h
  rw [hn]
  conv => lhs; unfold pieces
  rw [if_neg h, pieces_fuel n (l.drop (decodeL l).2).length _ (by rw [List.length_drop]; omega) (Nat.le_refl _)]

/-- at a place of a string that is not its end -/
theorem drop_ne (s : ByteArray) (pos : Nat) (h : pos < s.size) : s.data.toList.drop pos ≠ [] := by
  intro e
  have := congrArg List.length e
  rw [List.length_drop, ← Lib.size_eq] at this
  simp at this
  omega
theorem pcs_at (s : ByteArray) (pos : Nat) (h : pos < s.size) : pcs (s.data.toList.drop pos) = Utf8.decode s pos :: pcs (s.data.toList.drop (pos + (Utf8.decode s pos).2)) := by
  rw [pcs_step _ (drop_ne s pos h), decodeL_drop, List.drop_drop]
theorem pcs_end (s : ByteArray) (pos : Nat) (h : ¬ pos < s.size) : pcs (s.data.toList.drop pos) = [] := by
  have : s.data.toList.drop pos = [] := List.drop_eq_nil_of_le (by rw [← Lib.size_eq]; omega)
  rw [this, pcs_nil]
theorem at_width (s : ByteArray) (pos : Nat) (h : pos < s.size) : 1 ≤ (Utf8.decode s pos).2 ∧ pos + (Utf8.decode s pos).2 ≤ s.size := by
  have h1 := width_pos _ (drop_ne s pos h)
  have h2 := decodeL_le _ (drop_ne s pos h)
  rw [decodeL_drop] at h1 h2
  rw [List.length_drop, ← Lib.size_eq] at h2
  omega

/-- what a piece stands for is a rune -/
theorem decode_range (s : ByteArray) (pos : Nat) : (Utf8.decode s pos).1 ≤ 1114111 := by
  unfold Utf8.decode Utf8.valid Utf8.runeError
  simp only
  repeat' split
  all_goals simp_all
  all_goals omega

theorem pieces_length : ∀ (n : Nat) (l : List UInt8), (pieces n l).length ≤ n
  | 0, _ => by simp [pieces]
  | n + 1, l => by
    unfold pieces
    split
    · simp
    · have := pieces_length n (l.drop (decodeL l).2)
      simp only [List.length_cons]
      omega
theorem pcs_length (l : List UInt8) : (pcs l).length ≤ l.length := pieces_length _ _

/-- what the pieces stand for -/
def runes (l : List UInt8) : List Int := (pcs l).map fun p => (p.1 : Int)

theorem runeCountFrom_eq (s : ByteArray) : ∀ fuel pos, s.size ≤ pos + fuel → runeCountFrom s fuel pos = (pcs (s.data.toList.drop pos)).length
  | 0, pos, h => by
    rw [pcs_end s pos (by omega)]
    rfl
  | f + 1, pos, h => by
    unfold runeCountFrom
    by_cases hp : pos < s.size
    · rw [if_pos hp, pcs_at s pos hp, runeCountFrom_eq s f _ (by have := (at_width s pos hp).1; omega)]
      simp only [List.length_cons]
      omega
    · rw [if_neg hp, pcs_end s pos hp]
      rfl
theorem runeCount_eq (s : ByteArray) : runeCount s = (pcs s.data.toList).length := by
  unfold runeCount
  rw [runeCountFrom_eq s s.size 0 (by omega)]
  rfl

end Go.Proofs.YtfkianfddjccgaaDoor.Utf
