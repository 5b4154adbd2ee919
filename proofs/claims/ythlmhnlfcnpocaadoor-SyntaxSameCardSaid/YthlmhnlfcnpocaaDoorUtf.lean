/- Texts as pieces: plain Lean over the model's own decoding of UTF-8; no program. -/
import Derived.Lib.MapLaws
import Derived.Lib.TrimUEq
import Derived.Lib.RuneBytes
import Derived.Lib.RuneCount
import Derived.Lib.ValidU
namespace Go.Proofs.YthlmhnlfcnpocaaDoor.Utf
open Go Go.Lib

/-- the pieces of a text: what each stands for, and how many bytes it has -/
def pieces : Nat → List UInt8 → List (Nat × Nat)
  | 0, _ => []
  | n + 1, l => if l = [] then [] else decodeL l :: pieces n (l.drop (decodeL l).2)
def pcs (l : List UInt8) : List (Nat × Nat) := pieces l.length l

theorem width_pos (l : List UInt8) (h : l ≠ []) : 1 ≤ (decodeL l).2 := by
  have h0 : 0 < l.length := by
    cases l with
    | nil => exact absurd rfl h
    | cons _ _ => simp
  have hz : 0 < (⟨l.toArray⟩ : ByteArray).size := by
    show 0 < l.toArray.size
    simpa using h0
  exact decode_width_pos ⟨l.toArray⟩ 0 hz

/-- at a place of a string that is not its end -/
theorem drop_ne (s : ByteArray) (pos : Nat) (h : pos < s.size) : s.data.toList.drop pos ≠ [] := by
  intro e
  have := congrArg List.length e
  rw [List.length_drop, ← Lib.size_eq] at this
  simp at this
  omega
theorem at_width (s : ByteArray) (pos : Nat) (h : pos < s.size) : 1 ≤ (Utf8.decode s pos).2 ∧ pos + (Utf8.decode s pos).2 ≤ s.size := by
  have h1 := width_pos _ (drop_ne s pos h)
  have h2 := decodeL_le _ (drop_ne s pos h)
  rw [decodeL_drop] at h1 h2
  rw [List.length_drop, ← Lib.size_eq] at h2
  omega

/-- what a piece stands for is a rune -/
theorem decode_range (s : ByteArray) (pos : Nat) : (Utf8.decode s pos).1 ≤ 1114111 := by
  unfold Utf8.decode Utf8.valid Utf8.runeError
  simp only
  repeat' split
  all_goals simp_all
  all_goals omega

/-- what the pieces stand for -/
def runes (l : List UInt8) : List Int := (pcs l).map fun p => (p.1 : Int)

/-- has a text no stray byte? -/
def right (l : List UInt8) : Bool := (pcs l).all fun p => !decide (p.1 = 65533 ∧ p.2 = 1)
end Go.Proofs.YthlmhnlfcnpocaaDoor.Utf
