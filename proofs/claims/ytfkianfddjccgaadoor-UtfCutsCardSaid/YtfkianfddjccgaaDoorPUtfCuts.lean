/- Plain law: a text cut in three is the three pieces, one behind the other. -/
import Derived.Test.YtfkianfddjccgaaDoorUL3x2
import Derived.Test.YtfkianfddjccgaaDoorUq
import Derived.Test.YtfkianfddjccgaaDoorUtf2
namespace Go.Proofs.YtfkianfddjccgaaDoor.U
open Go.RowKit Go.Proofs.YtfkianfddjccgaaDoorW.PrintWords
set_option linter.unusedSimpArgs false

theorem extract_list (s : ByteArray) (a b : Nat) : (s.extract a b).data.toList = (s.data.toList.drop a).take (b - a) := Lib.extract_data s a b
theorem bytes_ext (a b : ByteArray) (h : a.data.toList = b.data.toList) : a = b := by
  apply ByteArray.ext
  exact Array.ext' h
/-- from a number to one that is not smaller, both at most the text's -/
theorem cut_eq (s : ByteArray) (i j : Nat) (h : i ≤ j) : cutZ s i j = s.extract (Utf.plc i s.data.toList) (Utf.plc j s.data.toList) := by
  unfold cutZ Utf.plcZ
  rw [Int.toNat_natCast, Int.toNat_natCast]
  by_cases c : (j : Int) ≤ max (i : Int) 0
  · rw [if_pos c]
    have : i = j := by omega
    subst this
    apply bytes_ext
    rw [extract_list, Nat.sub_self]
    rfl
  · rw [if_neg c]
theorem cut_len (s : ByteArray) (i j : Nat) (h : i ≤ j) (hj : j ≤ (Utf.pcs s.data.toList).length) : (Utf.pcs (cutZ s i j).data.toList).length = j - i := by
  rw [cut_eq s i j h, extract_list, Utf.pcs_cut i j _ h, List.length_take, List.length_drop]
  omega
theorem cut_size (s : ByteArray) (a b : Int) : (cutZ s a b).size ≤ s.size := by
  unfold cutZ
  split
  · exact Nat.zero_le _
  · rw [ByteArray.size_extract]
    omega

theorem take_take_drop (l : List UInt8) (p q r : Nat) (h1 : p ≤ q) (h2 : q ≤ r) (h3 : l.length ≤ r) : l.take p ++ (l.drop p).take (q - p) ++ (l.drop q).take (r - q) = l := by
  have e1 : l.take p ++ (l.drop p).take (q - p) = l.take q := by
    have := List.take_add (l := l) (i := p) (j := q - p)
    rw [show p + (q - p) = q by omega] at this
    exact this.symm
  have e2 : (l.drop q).take (r - q) = l.drop q := List.take_of_length_le (by rw [List.length_drop]; omega)
  rw [e1, e2, List.take_append_drop]

theorem cuts_j1 (s : ByteArray) (hs : s.size ≤ 140737488351232) (i j n k : Nat) (hn : (Utf.pcs s.data.toList).length = n) (hij : i ≤ j) (hjn : j ≤ n) : hallmarklaw02_UtfCuts.j1 (k + 1) s i j n false = some true := by
  have c1 : utf_Cut.f s 0 i = some (cutZ s (0 : Nat) i) := if_pos hs
  have c2 : utf_Cut.f s i j = some (cutZ s i j) := if_pos hs
  have c3 : utf_Cut.f s j n = some (cutZ s j n) := if_pos hs
  have z1 := cut_size s (0 : Nat) i
  have z2 := cut_size s i j
  have z3 := cut_size s j n
  have l1 : utf_Len.f (cutZ s (0 : Nat) i) = some (i : Int) := by
    have : utf_Len.f (cutZ s (0 : Nat) i) = some _ := if_pos (by omega)
    rw [this, cut_len s 0 i (by omega) (by omega)]
    rfl
  have l2 : utf_Len.f (cutZ s i j) = some ((j - i : Nat) : Int) := by
    have : utf_Len.f (cutZ s i j) = some _ := if_pos (by omega)
    rw [this, cut_len s i j hij (by omega)]
  have l3 : utf_Len.f (cutZ s j n) = some ((n - j : Nat) : Int) := by
    have : utf_Len.f (cutZ s j n) = some _ := if_pos (by omega)
    rw [this, cut_len s j n hjn (by omega)]
  have hle := Utf.pcs_length s.data.toList
  rw [← Lib.size_eq] at hle
  have w1 : wrap64 ((j : Int) - (i : Int)) = ((j - i : Nat) : Int) := by unfold wrap64; omega
  have w2 : wrap64 ((n : Int) - (j : Int)) = ((n - j : Nat) : Int) := by unfold wrap64; omega
  have he : ((cutZ s (0 : Nat) i ++ cutZ s i j) ++ cutZ s j n).toList = s.toList := by
    congr 1
    apply bytes_ext
    rw [ByteArray.data_append, Array.toList_append, ByteArray.data_append, Array.toList_append, cut_eq s 0 i (by omega), cut_eq s i j hij, cut_eq s j n hjn, extract_list, extract_list, extract_list]
    have m1 := Utf.plc_mono i j s.data.toList hij
    have m2 := Utf.plc_mono j n s.data.toList hjn
    have m3 := Utf.plc_end n s.data.toList (by omega)
    have p0 : Utf.plc 0 s.data.toList = 0 := rfl
    rw [p0, List.drop_zero, Nat.sub_zero]
    exact take_take_drop _ _ _ _ m1 m2 (by omega)
  rw [hallmarklaw02_UtfCuts.j1]
  rw [if_neg (by decide), c1, Option.bind_some, c2, Option.bind_some, c3, Option.bind_some, if_pos (by omega), if_pos (by omega), if_pos he, l1, Option.bind_some, if_pos rfl, l2, Option.bind_some, w1, if_pos rfl, l3, Option.bind_some, w2]
  simp

theorem pure_UtfCuts (a0 : ByteArray) (a1 a2 : Int) (h0 : a0.size ≤ 140737488351232) (_ : (Lit.int .i64 a1).wf = true) (_ : (Lit.int .i64 a2).wf = true) : ∃ k, hallmarklaw02_UtfCuts.f k a0 a1 a2 = some true := by
  refine ⟨10, ?_⟩
  obtain ⟨n, hn⟩ : ∃ n, (Utf.pcs a0.data.toList).length = n := ⟨_, rfl⟩
  have hle := Utf.pcs_length a0.data.toList
  rw [← Lib.size_eq] at hle
  have e1 : utf_Len.f a0 = some (n : Int) := by
    rw [← hn]
    exact if_pos h0
  have e2 : utf_Cut.f a0 (-1) n = some a0 := by
    have : utf_Cut.f a0 (-1) n = some _ := if_pos h0
    rw [this]
    congr 1
    unfold cutZ Utf.plcZ
    rw [Int.toNat_natCast, Utf.plc_end n _ (by omega)]
    have p0 : Utf.plc (-1 : Int).toNat a0.data.toList = 0 := rfl
    rw [p0]
    by_cases c : (n : Int) ≤ max (-1) 0
    · rw [if_pos c]
      apply bytes_ext
      have hz : n = 0 := by omega
      have := Utf.plc_end 0 a0.data.toList (by omega)
      have h0 : a0.data.toList.length = 0 := this.symm
      rw [List.eq_nil_of_length_eq_zero h0]
      rfl
    · rw [if_neg c]
      apply bytes_ext
      rw [extract_list, List.drop_zero, List.take_of_length_le (by omega)]
  have e3 : utf_Cut.f a0 a1 a1 = some ByteArray.empty := by
    have : utf_Cut.f a0 a1 a1 = some _ := if_pos h0
    rw [this]
    congr 1
    unfold cutZ
    rw [if_pos (by omega)]
  have e4 : (ByteArray.empty.toList != ([] : List UInt8)) = false := by simp [ByteArray.toList_eq]
  unfold hallmarklaw02_UtfCuts.f
  rw [fixed_at 10 (by omega), Option.bind_some, if_pos rfl, e1, Option.bind_some, e2, Option.bind_some, if_pos rfl, e3, Option.bind_some, e4]
  rw [hallmarklaw02_UtfCuts.j0]
  rw [if_neg (by decide)]
  have out : hallmarklaw02_UtfCuts.j1 9 a0 a1 a2 n true = some true := by
    rw [hallmarklaw02_UtfCuts.j1]
    rw [if_pos rfl]
  by_cases c1 : a1 < 0
  · rw [if_pos c1]
    exact out
  · rw [if_neg c1]
    by_cases c2 : a2 < a1
    · rw [if_pos c2]
      exact out
    · rw [if_neg c2]
      by_cases c3 : a2 > (n : Int)
      · rw [decide_eq_true c3]
        exact out
      · rw [decide_eq_false c3]
        obtain ⟨i, rfl⟩ : ∃ i : Nat, a1 = i := ⟨a1.toNat, by omega⟩
        obtain ⟨j, rfl⟩ : ∃ j : Nat, a2 = j := ⟨a2.toNat, by omega⟩
        exact cuts_j1 a0 h0 i j n 8 hn (by omega) (by omega)

end Go.Proofs.YtfkianfddjccgaaDoor.U
