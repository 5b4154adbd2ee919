/- Plain law: letters turned small and large. -/
import Derived.Test.YtfkianfddjccgaaDoorUL3x4
import Derived.Test.YtfkianfddjccgaaDoorFixed
namespace Go.Proofs.YtfkianfddjccgaaDoor.U
open Go.RowKit Go.Proofs.YtfkianfddjccgaaDoorW.PrintWords

/-- what holds of each byte, by evaluation -/
def caseFacts (n : Nat) : Bool :=
  let c : Int := n
  let l := flipZ c 65 90
  let u := flipZ c 97 122
  decide (0 ≤ l ∧ l ≤ 255 ∧ 0 ≤ u ∧ u ≤ 255) && (flipZ u 65 90 == l) && (flipZ l 97 122 == u) &&
    (if 97 ≤ c ∧ c ≤ 122 ∨ 65 ≤ c ∧ c ≤ 90 then l != u else l == u) && (l == c || u == c)
theorem case_facts : (List.range 256).all caseFacts = true := by kernel_rfl
theorem case_fact (c : Int) (h0 : 0 ≤ c) (h1 : c ≤ 255) :
    (0 ≤ flipZ c 65 90 ∧ flipZ c 65 90 ≤ 255 ∧ 0 ≤ flipZ c 97 122 ∧ flipZ c 97 122 ≤ 255) ∧ flipZ (flipZ c 97 122) 65 90 = flipZ c 65 90 ∧ flipZ (flipZ c 65 90) 97 122 = flipZ c 97 122 ∧
      ((97 ≤ c ∧ c ≤ 122 ∨ 65 ≤ c ∧ c ≤ 90) ↔ flipZ c 65 90 ≠ flipZ c 97 122) ∧ (flipZ c 65 90 = c ∨ flipZ c 97 122 = c) := by
  obtain ⟨n, rfl⟩ : ∃ n : Nat, c = n := ⟨c.toNat, by omega⟩
  have h := List.all_eq_true.1 case_facts n (List.mem_range.2 (by omega))
  unfold caseFacts at h
  simp only [Bool.and_eq_true, decide_eq_true_eq, beq_iff_eq, Bool.or_eq_true] at h
  obtain ⟨⟨⟨⟨a, b⟩, d⟩, e⟩, f⟩ := h
  refine ⟨a, b, d, ?_, f⟩
  split at e
  · rename_i g
    exact ⟨fun _ => by simpa using e, fun _ => g⟩
  · rename_i g
    exact ⟨fun h => absurd h g, fun h => absurd (by simpa using e) h⟩

theorem bytes_range (s : ByteArray) : ∀ x ∈ bytesOf s, 0 ≤ x ∧ x ≤ 255 := by
  intro x hx
  unfold bytesOf at hx
  obtain ⟨b, _, rfl⟩ := List.mem_map.1 hx
  have := b.toNat_lt
  omega
theorem bytes_str (l : List Int) (h : ∀ x ∈ l, 0 ≤ x ∧ x ≤ 255) : bytesOf (strOfNums l) = l := by
  unfold bytesOf
  rw [strOfNums_data, List.map_map]
  refine (List.map_congr_left fun x hx => ?_).trans (List.map_id l)
  have := h x hx
  show ((UInt8.ofNat x.toNat).toNat : Int) = x
  rw [UInt8.toNat_ofNat']
  omega
theorem bt_bytes (s : ByteArray) (i : Nat) (h : i < s.size) : (bytesOf s)[i]'(by rw [bytesOf_length]; exact h) = bt s i := by
  have := rd_bytesOf s i
  unfold rd at this
  rw [Int.toNat_natCast, List.getD_eq_getElem?_getD, List.getElem?_eq_getElem (by rw [bytesOf_length]; exact h)] at this
  exact this
theorem bt_str (l : List Int) (h : ∀ x ∈ l, 0 ≤ x ∧ x ≤ 255) (i : Nat) (hi : i < l.length) : bt (strOfNums l) i = l[i] := by
  rw [← bt_bytes (strOfNums l) i (by rw [strOfNums_size]; exact hi)]
  congr 1
  exact bytes_str l h

def turnZ (s : ByteArray) (a b : Int) : ByteArray := strOfNums ((bytesOf s).map fun c => flipZ c a b)
theorem turn_low_range (s : ByteArray) : ∀ x ∈ (bytesOf s).map (fun c => flipZ c 65 90), 0 ≤ x ∧ x ≤ 255 := by
  intro x hx
  obtain ⟨c, hc, rfl⟩ := List.mem_map.1 hx
  have := bytes_range s c hc
  have := (case_fact c this.1 this.2).1
  omega
theorem turn_up_range (s : ByteArray) : ∀ x ∈ (bytesOf s).map (fun c => flipZ c 97 122), 0 ≤ x ∧ x ≤ 255 := by
  intro x hx
  obtain ⟨c, hc, rfl⟩ := List.mem_map.1 hx
  have := bytes_range s c hc
  have := (case_fact c this.1 this.2).1
  omega
theorem turn_size (s : ByteArray) (a b : Int) : (turnZ s a b).size = s.size := by
  unfold turnZ
  rw [strOfNums_size, List.length_map, bytesOf_length]
theorem low_up (s : ByteArray) : turnZ (turnZ s 97 122) 65 90 = turnZ s 65 90 := by
  unfold turnZ
  rw [bytes_str _ (turn_up_range s), List.map_map]
  congr 1
  refine List.map_congr_left fun c hc => ?_
  have := bytes_range s c hc
  exact (case_fact c this.1 this.2).2.1
theorem up_low (s : ByteArray) : turnZ (turnZ s 65 90) 97 122 = turnZ s 97 122 := by
  unfold turnZ
  rw [bytes_str _ (turn_low_range s), List.map_map]
  congr 1
  refine List.map_congr_left fun c hc => ?_
  have := bytes_range s c hc
  exact (case_fact c this.1 this.2).2.2.1
theorem bt_low (s : ByteArray) (i : Nat) (h : i < s.size) : bt (turnZ s 65 90) i = flipZ (bt s i) 65 90 := by
  unfold turnZ
  rw [bt_str _ (turn_low_range s) i (by rw [List.length_map, bytesOf_length]; exact h), List.getElem_map, bt_bytes s i h]
theorem bt_up (s : ByteArray) (i : Nat) (h : i < s.size) : bt (turnZ s 97 122) i = flipZ (bt s i) 97 122 := by
  unfold turnZ
  rw [bt_str _ (turn_up_range s) i (by rw [List.length_map, bytesOf_length]; exact h), List.getElem_map, bt_bytes s i h]

theorem cases_loop (s : ByteArray) (hs : s.size ≤ 140737488351232) : ∀ (n i k : Nat), i + n = s.size → n < k → hallmarklaw02_UtfCases.l0 k s (turnZ s 65 90) (turnZ s 97 122) i = some true
  | 0, i, k, hi, hk => by
    obtain ⟨k, rfl⟩ : ∃ m, k = m + 1 := ⟨k - 1, by omega⟩
    unfold hallmarklaw02_UtfCases.l0
    rw [if_neg (by omega)]
  | n + 1, i, k, hi, hk => by
    obtain ⟨k, rfl⟩ : ∃ m, k = m + 1 := ⟨k - 1, by omega⟩
    have ih := cases_loop s hs n (i + 1) k (by omega) (by omega)
    have hw : wrap64 ((i : Int) + 1) = ((i + 1 : Nat) : Int) := by unfold wrap64; omega
    have hr := bt_range s i
    obtain ⟨_, _, _, hl, hc⟩ := case_fact (bt s i) hr.1 hr.2
    unfold hallmarklaw02_UtfCases.l0
    rw [hw]
    rw [bt_low s i (by omega), bt_up s i (by omega), turn_size, turn_size, ih]
    obtain ⟨c, hcc⟩ : ∃ c, c = bt s i := ⟨_, rfl⟩
    obtain ⟨l, hll⟩ : ∃ l, l = flipZ (bt s i) 65 90 := ⟨_, rfl⟩
    obtain ⟨u, huu⟩ : ∃ u, u = flipZ (bt s i) 97 122 := ⟨_, rfl⟩
    rw [← hll, ← huu, ← hcc] at hl hc
    rw [← hll, ← huu, ← hcc]
    clear hll huu hcc ih hw hr
    have h1 : (i : Int) < (s.size : Int) := by omega
    have h0 : (0 : Int) ≤ (i : Int) := by omega
    by_cases e : l = u
    · have hn : ¬ (97 ≤ c ∧ c ≤ 122 ∨ 65 ≤ c ∧ c ≤ 90) := fun g => hl.1 g e
      have hcl : u = c := by rcases hc with h | h <;> omega
      subst e
      subst hcl
      clear hl hc
      simp only [h1, h0, if_true, bne_self_eq_false, Bool.false_bne, Bool.false_eq_true, if_false, decide_eq_true_eq, ge_iff_le]
      repeat' split
      all_goals first | rfl | omega
    · have hb : (l != u) = true := by simpa using e
      have hn := hl.2 e
      clear hl
      simp only [h1, h0, if_true, hb, Bool.true_bne, ge_iff_le, Bool.not_true, Bool.false_eq_true, if_false, Bool.not_eq_eq_eq_not, decide_eq_false_iff_not, Bool.not_false]
      repeat' split
      all_goals first | rfl | omega

theorem pure_UtfCases (a0 : ByteArray) (h0 : a0.size ≤ 140737488351232) : ∃ k, hallmarklaw02_UtfCases.f k a0 = some true := by
  refine ⟨a0.size + 10, ?_⟩
  have eL : ∀ s : ByteArray, s.size ≤ 140737488351232 → utf_Lower.f s = some (turnZ s 65 90) := by
    intro s hs
    unfold utf_Lower.f utf_mapped.f
    rw [if_pos hs]
    rfl
  have eU : ∀ s : ByteArray, s.size ≤ 140737488351232 → utf_Upper.f s = some (turnZ s 97 122) := by
    intro s hs
    unfold utf_Upper.f utf_mapped.f
    rw [if_pos hs]
    rfl
  unfold hallmarklaw02_UtfCases.f
  rw [fixed_at _ (by omega), eL a0 h0, eU a0 h0]
  simp only [Option.bind_some, if_true]
  rw [turn_size, turn_size, if_pos rfl, if_pos rfl, eL _ (by rw [turn_size]; exact h0), eU _ (by rw [turn_size]; exact h0), low_up, up_low]
  simp only [Option.bind_some, if_true, bne_self_eq_false]
  show hallmarklaw02_UtfCases.j0 (a0.size + 9 + 1) _ _ _ _ = _
  simp only [hallmarklaw02_UtfCases.j0, Bool.false_eq_true, if_false]
  exact cases_loop a0 h0 a0.size 0 (a0.size + 9) (by omega) (by omega)

end Go.Proofs.YtfkianfddjccgaaDoor.U
