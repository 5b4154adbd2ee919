/- The places of a text's pieces: plain Lean. -/
import Derived.Test.YtfkianfddjccgaaDoorUtf
namespace Go.Proofs.YtfkianfddjccgaaDoor.Utf
open Go Go.Lib

/-- where the piece of a number begins; the text's end if there is none -/
def plc : Nat → List UInt8 → Nat
  | 0, _ => 0
  | n + 1, l => if l = [] then 0 else (decodeL l).2 + plc n (l.drop (decodeL l).2)

theorem plc_le : ∀ (n : Nat) (l : List UInt8), plc n l ≤ l.length
  | 0, _ => Nat.zero_le _
  | n + 1, l => by
    unfold plc
    split
    · exact Nat.zero_le _
    · rename_i h
      have h2 := decodeL_le l h
      have := plc_le n (l.drop (decodeL l).2)
      rw [List.length_drop] at this
      omega

theorem le_plc : ∀ (n : Nat) (l : List UInt8), n ≤ (pcs l).length → n ≤ plc n l
  | 0, _, _ => Nat.zero_le _
  | n + 1, l, h => by
    unfold plc
    by_cases hl : l = []
    · rw [hl] at h
      simp [pcs_nil] at h
    · rw [if_neg hl]
      rw [pcs_step l hl, List.length_cons] at h
      have := le_plc n (l.drop (decodeL l).2) (by omega)
      have := width_pos l hl
      omega

theorem plc_succ : ∀ (n : Nat) (l : List UInt8), plc n l < l.length → plc (n + 1) l = plc n l + (decodeL (l.drop (plc n l))).2
  | 0, l, h => by
    have hl : l ≠ [] := by
      intro e
      rw [e] at h
      simp at h
    unfold plc
    rw [if_neg hl]
    simp [plc]
  | n + 1, l, h => by
    by_cases hl : l = []
    · rw [hl] at h
      simp at h
    · have e : plc (n + 1) l = (decodeL l).2 + plc n (l.drop (decodeL l).2) := by
        conv => lhs; unfold plc
        rw [if_neg hl]
      have e2 : plc (n + 1 + 1) l = (decodeL l).2 + plc (n + 1) (l.drop (decodeL l).2) := by
        conv => lhs; unfold plc
        rw [if_neg hl]
      rw [e] at h
      have := plc_succ n (l.drop (decodeL l).2) (by rw [List.length_drop]; omega)
      rw [e2, this, e, List.drop_drop]
      omega

theorem plc_at (s : ByteArray) (n : Nat) (h : plc n s.data.toList < s.size) : plc (n + 1) s.data.toList = plc n s.data.toList + (Utf8.decode s (plc n s.data.toList)).2 := by
  rw [plc_succ n _ (by rw [← Lib.size_eq]; exact h), decodeL_drop]

theorem plc_mono : ∀ (n m : Nat) (l : List UInt8), n ≤ m → plc n l ≤ plc m l
  | 0, _, _, _ => Nat.zero_le _
  | n + 1, 0, _, h => by omega
  | n + 1, m + 1, l, h => by
    unfold plc
    split
    · exact Nat.le_refl _
    · have := plc_mono n m (l.drop (decodeL l).2) (by omega)
      omega

/-- behind all pieces: the end -/
theorem plc_end : ∀ (n : Nat) (l : List UInt8), (pcs l).length ≤ n → plc n l = l.length
  | 0, l, h => by
    by_cases hl : l = []
    · rw [hl]
      rfl
    · rw [pcs_step l hl, List.length_cons] at h
      omega
  | n + 1, l, h => by
    by_cases hl : l = []
    · rw [hl]
      rfl
    · rw [pcs_step l hl, List.length_cons] at h
      unfold plc
      rw [if_neg hl, plc_end n _ (by omega), List.length_drop]
      have := decodeL_le l hl
      omega

/-- the pieces behind some -/
theorem pcs_drop : ∀ (n : Nat) (l : List UInt8), pcs (l.drop (plc n l)) = (pcs l).drop n
  | 0, l => rfl
  | n + 1, l => by
    by_cases hl : l = []
    · rw [hl]
      simp [pcs_nil]
    · have e : plc (n + 1) l = (decodeL l).2 + plc n (l.drop (decodeL l).2) := by
        conv => lhs; unfold plc
        rw [if_neg hl]
      rw [e, pcs_step l hl, ← List.drop_drop, pcs_drop n]
      rfl

/-- behind the last piece of a number there is nothing: the number is that of all -/
theorem plc_size {n : Nat} {l : List UInt8} (h : ¬ plc n l < l.length) : (pcs l).length ≤ n := by
  have e := pcs_drop n l
  have : l.drop (plc n l) = [] := List.drop_eq_nil_of_le (by omega)
  rw [this, pcs_nil] at e
  have := congrArg List.length e
  rw [List.length_drop] at this
  simp at this
  omega

/-- the place of a number that may be below 0; behind all: the end -/
def plcZ (z : Int) (l : List UInt8) : Nat := plc z.toNat l

end Go.Proofs.YtfkianfddjccgaaDoor.Utf
