/- Plain law: a part is found just where the rest of the text begins with it. -/
import Derived.Test.YtfkianfddjccgaaDoorUL3x9
import Derived.Test.YtfkianfddjccgaaDoorUq
namespace Go.Proofs.YtfkianfddjccgaaDoor.U
open Go.RowKit Go.Proofs.YtfkianfddjccgaaDoorW.PrintWords
set_option linter.unusedSimpArgs false

theorem findL_split (P : Nat → Bool) (i : Nat) : ∀ n, i < n → ∃ t, findL P n = findL P i ++ ((if P i = true then [(i : Int)] else []) ++ t) ∧ ∀ x ∈ t, (i : Int) < x
  | 0, h => by omega
  | n + 1, h => by
    by_cases e : i = n
    · subst e
      refine ⟨[], ?_, by simp⟩
      cases hp : P i
      · rw [findL_no P i hp]
        simp
      · rw [findL_yes P i hp]
        simp
    · obtain ⟨t, h1, h2⟩ := findL_split P i n (by omega)
      cases hp : P n
      · exact ⟨t, by rw [findL_no P n hp, h1], h2⟩
      · refine ⟨t ++ [(n : Int)], by rw [findL_yes P n hp, h1]; simp, ?_⟩
        intro x hx
        rcases List.mem_append.1 hx with g | g
        · exact h2 x g
        · rw [List.mem_singleton.1 g]
          omega

/-- what stands in the list at the number of those found so far -/
theorem findL_told (P : Nat → Bool) (i n : Nat) (h : i < n) :
    (((findL P i).length : Int) < ((findL P n).length : Int) → (rd (findL P n) ((findL P i).length : Int) == (i : Int)) = P i) ∧ (¬ ((findL P i).length : Int) < ((findL P n).length : Int) → P i = false) := by
  obtain ⟨t, h1, h2⟩ := findL_split P i n h
  cases hp : P i
  · rw [hp] at h1
    simp only [Bool.false_eq_true, if_false, List.nil_append] at h1
    refine ⟨?_, fun _ => rfl⟩
    intro hlt
    have hl : (findL P i).length < (findL P n).length := by omega
    rw [rd_nat _ _ hl]
    cases t with
    | nil =>
      rw [h1, List.append_nil] at hl
      omega
    | cons x t =>
      have hx : (findL P n)[(findL P i).length] = x := by
        simp [h1]
      rw [hx]
      have := h2 x (by simp)
      exact beq_eq_false_iff_ne.2 (by omega)
  · rw [hp] at h1
    simp only [if_true, List.cons_append, List.nil_append] at h1
    have hl : (findL P i).length < (findL P n).length := by
      rw [h1, List.length_append, List.length_cons]
      omega
    refine ⟨?_, fun g => by omega⟩
    intro _
    have hx : (findL P n)[(findL P i).length] = (i : Int) := by
      simp [h1]
    rw [rd_nat _ _ hl, hx]
    simp

theorem rest_eq (s : ByteArray) (i : Nat) (hi : i < (Utf.pcs s.data.toList).length) : (cutZ s i ((Utf.pcs s.data.toList).length : Int)).data.toList = s.data.toList.drop (Utf.plc i s.data.toList) := by
  unfold cutZ Utf.plcZ
  rw [if_neg (by omega), Int.toNat_natCast, Int.toNat_natCast, Utf.plc_end _ _ (Nat.le_refl _), Lib.extract_data, List.take_of_length_le (by rw [List.length_drop]; omega)]

theorem finds_loop (s p : ByteArray) (hs : s.size ≤ 1048576) (hp : p.size ≤ 1048576) (n : Nat) (hn : (Utf.pcs s.data.toList).length = n) (hns : n ≤ s.size) : ∀ (m i k : Nat), i + m = n → 3 * m + 1 ≤ k →
    hallmarklaw02_UtfFinds.l0 k s p (findL (beginsAt s p) n) n ((findL (beginsAt s p) i).length : Int) i = some true
  | 0, i, k, hi, hk => by
    obtain ⟨k, rfl⟩ : ∃ m, k = m + 1 := ⟨k - 1, by omega⟩
    have hin : i = n := by omega
    subst hin
    rw [hallmarklaw02_UtfFinds.l0, if_neg (by omega)]
    simp
  | m + 1, i, k, hi, hk => by
    obtain ⟨k, rfl⟩ : ∃ m, k = m + 3 := ⟨k - 3, by omega⟩
    have hlt : i < n := by omega
    have ih := finds_loop s p hs hp n hn hns m (i + 1) k (by omega) (by omega)
    have hll := findL_len (beginsAt s p) i
    obtain ⟨t1, t2⟩ := findL_told (beginsAt s p) i n hlt
    have hc : utf_Cut.f s i n = some (cutZ s i n) := if_pos (by omega)
    have hrest : (cutZ s i n).data.toList = s.data.toList.drop (Utf.plc i s.data.toList) := by rw [← hn]; exact rest_eq s i (by omega)
    have hraw := Lib.hasPrefix_raw (cutZ s i n) p
    rw [hrest] at hraw
    obtain ⟨c, hcz⟩ : ∃ c, cutZ s i n = c := ⟨_, rfl⟩
    rw [hcz] at hc hraw
    obtain ⟨b, hb⟩ : ∃ b, beginsAt s p i = b := ⟨_, rfl⟩
    have hbe := hb
    unfold beginsAt at hbe
    rw [hb] at t1 t2
    have hw1 : wrap64 ((i : Int) + 1) = ((i + 1 : Nat) : Int) := by unfold wrap64; omega
    have hw2 : wrap64 (((findL (beginsAt s p) i).length : Int) + 1) = (((findL (beginsAt s p) i).length + 1 : Nat) : Int) := by unfold wrap64; omega
    -- once it is known whether the rest begins so
    have step : hallmarklaw02_UtfFinds.j1 (k + 2) s p (findL (beginsAt s p) n) n ((findL (beginsAt s p) i).length : Int) i b = some true := by
      have told : hallmarklaw02_UtfFinds.j2 (k + 1) s p (findL (beginsAt s p) n) n ((findL (beginsAt s p) i).length : Int) i b b = some true := by
        rw [hallmarklaw02_UtfFinds.j2, if_neg (by simp)]
        cases b
        · rw [if_neg (by decide), hw1]
          rw [findL_no _ i hb] at ih
          exact ih
        · rw [if_pos rfl, hw1, hw2]
          rw [findL_yes _ i hb, List.length_append] at ih
          exact ih
      rw [hallmarklaw02_UtfFinds.j1]
      by_cases g : ((findL (beginsAt s p) i).length : Int) < ((findL (beginsAt s p) n).length : Int)
      · rw [if_pos g, if_pos (by omega), t1 g]
        exact told
      · rw [if_neg g]
        have := t2 g
        subst this
        exact told
    rw [hallmarklaw02_UtfFinds.l0, if_pos (by omega), hc, Option.bind_some]
    by_cases p0 : p.size = 0
    · rw [if_neg (by omega)]
      have he : p.data.toList = [] := List.eq_nil_of_length_eq_zero (by rw [← Lib.size_eq]; exact p0)
      rw [he] at hbe
      have hbf : b = false := by rw [← hbe]; rfl
      rw [hbf] at step
      exact step
    · rw [if_pos (by omega)]
      have he : p.data.toList.isEmpty = false := by
        rw [List.isEmpty_eq_false_iff]
        intro e
        rw [Lib.size_eq, e] at p0
        exact p0 rfl
      rw [he, ← hraw] at hbe
      by_cases g : p.size ≤ c.size
      · rw [if_pos (by omega), if_pos (by omega), if_pos (by omega), Int.toNat_natCast]
        rw [decide_eq_true g] at hbe
        have hbf : ((c.extract 0 p.size).toList == p.toList) = b := hbe
        rw [hbf]
        exact step
      · rw [if_neg (by omega)]
        rw [decide_eq_false g] at hbe
        have hbf : b = false := hbe.symm
        rw [hbf] at step
        exact step

theorem pure_UtfFinds (a0 a1 : ByteArray) (h0 : a0.size ≤ 1048576) (h1 : a1.size ≤ 1048576) : ∃ k, hallmarklaw02_UtfFinds.f k a0 a1 = some true := by
  refine ⟨3 * a0.size + 20, ?_⟩
  obtain ⟨n, hn⟩ : ∃ n, (Utf.pcs a0.data.toList).length = n := ⟨_, rfl⟩
  have hle := Utf.pcs_length a0.data.toList
  rw [← Lib.size_eq] at hle
  have e1 : utf_Find.f a0 a1 = some (findL (beginsAt a0 a1) n) := by
    rw [← hn]
    exact if_pos (by omega)
  have e2 : utf_Len.f a0 = some (n : Int) := by
    rw [← hn]
    exact if_pos (by omega)
  have hl := finds_loop a0 a1 h0 h1 n hn (by omega) n 0 (3 * a0.size + 20) (by omega) (by omega)
  unfold hallmarklaw02_UtfFinds.f
  rw [fixed_at _ (by omega), Option.bind_some, if_pos rfl, e1, Option.bind_some, e2, Option.bind_some]
  exact hl

end Go.Proofs.YtfkianfddjccgaaDoor.U
