/- What the law's own functions over lists of numbers answer: plain Lean. -/
import Derived.Test.YtfkianfddjccgaaDoorUL3x0
import Derived.Test.YtfkianfddjccgaaDoorEText
import Derived.Test.YtfkianfddjccgaaDoorUtf
namespace Go.Proofs.YtfkianfddjccgaaDoor.U
open Go.RowKit Go.Proofs.YtfkianfddjccgaaDoorW.PrintWords

theorem rd_nat (l : List Int) (i : Nat) (h : i < l.length) : rd l (i : Int) = l[i] := by
  unfold rd
  rw [Int.toNat_natCast, List.getD_eq_getElem?_getD, List.getElem?_eq_getElem h]
  rfl

theorem numbers_loop (l : List Int) (hl : l.length ≤ 4194304) (hr : ∀ x ∈ l, -2147483648 ≤ x ∧ x ≤ 2147483647) : ∀ (n i k : Nat) (acc : List Int), i + n = l.length → acc.length = i → n < k → hallmarklaw02_numbers.l0 k l acc i = some (acc ++ l.drop i)
  | 0, i, k, acc, hi, ha, hk => by
    obtain ⟨k, rfl⟩ : ∃ m, k = m + 1 := ⟨k - 1, by omega⟩
    unfold hallmarklaw02_numbers.l0
    rw [if_neg (by omega), List.drop_eq_nil_of_le (by omega)]
    simp
  | n + 1, i, k, acc, hi, ha, hk => by
    obtain ⟨k, rfl⟩ : ∃ m, k = m + 1 := ⟨k - 1, by omega⟩
    have hlt : i < l.length := by omega
    have h32 := hr l[i] (List.getElem_mem hlt)
    have hw : wrap64 ((i : Int) + 1) = ((i + 1 : Nat) : Int) := by unfold wrap64; omega
    have hv : wrap64 (rd l i) = l[i] := by rw [rd_nat l i hlt]; unfold wrap64; omega
    unfold hallmarklaw02_numbers.l0
    rw [if_pos (by omega), if_pos (by omega), if_pos (by omega), hw, hv, numbers_loop l hl hr n (i + 1) k (acc ++ [l[i]]) (by omega) (by simp [ha]) (by omega)]
    rw [List.append_assoc, List.drop_eq_getElem_cons hlt]
    rfl
theorem numbers_eq (l : List Int) (hl : l.length ≤ 4194304) (hr : ∀ x ∈ l, -2147483648 ≤ x ∧ x ≤ 2147483647) (k : Nat) (hk : l.length < k) : hallmarklaw02_numbers.f k l = some l := by
  have := numbers_loop l hl hr l.length 0 k [] (by omega) rfl hk
  exact this

theorem twin_loop (l : List Int) (hl : l.length ≤ 4194304) : ∀ (n i k : Nat) (acc : List Int), i + n = l.length → acc.length = i → n < k → hallmarklaw02_twin.l0 k l acc i = some (acc ++ l.drop i)
  | 0, i, k, acc, hi, ha, hk => by
    obtain ⟨k, rfl⟩ : ∃ m, k = m + 1 := ⟨k - 1, by omega⟩
    unfold hallmarklaw02_twin.l0
    rw [if_neg (by omega), List.drop_eq_nil_of_le (by omega)]
    simp
  | n + 1, i, k, acc, hi, ha, hk => by
    obtain ⟨k, rfl⟩ : ∃ m, k = m + 1 := ⟨k - 1, by omega⟩
    have hlt : i < l.length := by omega
    have hw : wrap64 ((i : Int) + 1) = ((i + 1 : Nat) : Int) := by unfold wrap64; omega
    unfold hallmarklaw02_twin.l0
    rw [if_pos (by omega), if_pos (by omega), if_pos (by omega), hw, rd_nat l i hlt, twin_loop l hl n (i + 1) k (acc ++ [l[i]]) (by omega) (by simp [ha]) (by omega)]
    rw [List.append_assoc, List.drop_eq_getElem_cons hlt]
    rfl
theorem twin_eq (l : List Int) (hl : l.length ≤ 4194304) (k : Nat) (hk : l.length < k) : hallmarklaw02_twin.f k l = some l := by
  have := twin_loop l hl l.length 0 k [] (by omega) rfl hk
  exact this

theorem alike_loop (l : List Int) (hl : l.length ≤ 4194304) : ∀ (n i k : Nat), i + n = l.length → n < k → hallmarklaw02_alike.l0 k l l i = some true
  | 0, i, k, hi, hk => by
    obtain ⟨k, rfl⟩ : ∃ m, k = m + 1 := ⟨k - 1, by omega⟩
    unfold hallmarklaw02_alike.l0
    rw [if_neg (by omega)]
  | n + 1, i, k, hi, hk => by
    obtain ⟨k, rfl⟩ : ∃ m, k = m + 1 := ⟨k - 1, by omega⟩
    have hw : wrap64 ((i : Int) + 1) = ((i + 1 : Nat) : Int) := by unfold wrap64; omega
    unfold hallmarklaw02_alike.l0
    rw [if_pos (by omega), if_pos (by omega), if_pos (by omega), if_pos rfl, hw, alike_loop l hl n (i + 1) k (by omega) (by omega)]
theorem alike_eq (l : List Int) (hl : l.length ≤ 4194304) (k : Nat) (hk : l.length < k) : hallmarklaw02_alike.f k l l = some true := by
  unfold hallmarklaw02_alike.f
  rw [if_pos rfl]
  exact alike_loop l hl l.length 0 k (by omega) hk

theorem fixed_8 : hallmarklaw02_fixed.f 8 = some true := by kernel_rfl
theorem fixed_ok : ∀ n, hallmarklaw02_fixed.f (n + 8) = some true
  | 0 => fixed_8
  | n + 1 => hallmarklaw02_fixed.mono (n + 8) true (fixed_ok n)
theorem fixed_at (k : Nat) (h : 8 ≤ k) : hallmarklaw02_fixed.f k = some true := by
  obtain ⟨n, rfl⟩ : ∃ n, k = n + 8 := ⟨k - 8, by omega⟩
  exact fixed_ok n

theorem runes_length (s : ByteArray) : (Utf.runes s.data.toList).length ≤ s.size := by
  unfold Utf.runes
  rw [List.length_map]
  have := Utf.pcs_length s.data.toList
  rw [← Lib.size_eq] at this
  exact this
/-- the text of runes -/
def textZ (l : List Int) : ByteArray := ⟨(l.flatMap Lib.encodeRune).toArray⟩
theorem textZ_list (l : List Int) : (textZ l).data.toList = l.flatMap Lib.encodeRune := by simp [textZ]
theorem textZ_size (l : List Int) : (textZ l).size ≤ 4 * l.length := by
  have := flat_length l
  rw [Lib.size_eq, textZ_list]
  exact this
theorem eq_list (a b : ByteArray) : (a.toList == b.toList) = decide (a.data.toList = b.data.toList) := by
  rw [Bool.eq_iff_iff]
  simp [ByteArray.toList_eq]

theorem proper_32 (r : Int) (h : Utf.Proper r) : -2147483648 ≤ r ∧ r ≤ 2147483647 := by
  unfold Utf.Proper at h
  omega

end Go.Proofs.YtfkianfddjccgaaDoor.U
