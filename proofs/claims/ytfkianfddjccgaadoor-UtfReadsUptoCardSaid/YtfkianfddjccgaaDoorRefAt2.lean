/- The reference's piece at a place is the model's. Plain Lean. -/
import Derived.Test.YtfkianfddjccgaaDoorRefAt
namespace Go.Proofs.YtfkianfddjccgaaDoor.U
open Go.RowKit Go.Proofs.YtfkianfddjccgaaDoorW.PrintWords
set_option linter.unusedSimpArgs false

theorem not_stray (v : Int) (z : Nat) (h0 : v ≥ 0) (hsz : sizeZ v = (z : Int)) : ¬ (v.toNat = 65533 ∧ z = 1) := by
  intro g
  have h1 : v = 65533 := by omega
  have h2 : sizeZ v = 3 := by
    unfold sizeZ
    rw [if_neg (by omega), if_neg (by omega), if_pos (by omega)]
  omega
theorem at_l0_pos (k : Nat) (s : ByteArray) (x y : Int) (h : y ≤ 4) : hallmarkref02_at.l0 (k + 1) s x y = hallmarkref02_at.j1 k s x y (decide (wrap64 (x + y) ≤ (s.size : Int))) := by
  rw [hallmarkref02_at.l0, if_pos h]
theorem at_j1_true (k : Nat) (s : ByteArray) (x y : Int) : hallmarkref02_at.j1 (k + 1) s x y true = (hallmarkref02_spelled.f k s x y).bind fun t155 => (if t155 ≥ 0 then ((hallmarkref02_Encoding.f k t155).bind fun t156 => ((hallmarkref02_same.f k s x t156).bind fun t159 => (if t159 = true then (some (x, wrap64 (x + y), t155, false)) else (hallmarkref02_at.l0 k s x (wrap64 (y + 1)))))) else (hallmarkref02_at.l0 k s x (wrap64 (y + 1)))) := by
  rw [hallmarkref02_at.j1, if_pos rfl]
/-- a size is tried: it is the piece's, or the next one is tried -/
theorem at_round (s : ByteArray) (hs : s.size ≤ 140737488351232) (p z k : Nat) (hp : p < s.size) (h1 : 1 ≤ z) (i4 : z ≤ 4) (hpz : p + z ≤ s.size) (i10 : 10 ≤ k) (hz5 : (z : Int) ≤ 4)
    (hw : wrap64 ((p : Int) + (z : Int)) = ((p + z : Nat) : Int)) (hw1 : wrap64 ((z : Int) + 1) = ((z + 1 : Nat) : Int)) (hle : ((p + z : Nat) : Int) ≤ (s.size : Int))
    (R : Option (Int × Int × Int × Bool)) (hR : hallmarkref02_at.l0 k s p ((z + 1 : Nat) : Int) = R) :
    hallmarkref02_at.l0 (k + 2) s p z = some (atZ s p) ∨ ((¬ strayAt s p → (Utf8.decode s p).2 ≠ z) ∧ hallmarkref02_at.l0 (k + 2) s p z = R) := by
  -- if the size is the piece's, the rune is spelled
  have own : ¬ strayAt s p → (Utf8.decode s p).2 = z → spellZ s p z = ((Utf8.decode s p).1 : Int) ∧ stands (Lib.encodeRuneZ ((Utf8.decode s p).1 : Int)) (s.data.toList.drop p) = true := by
    intro hn hz2
    obtain ⟨g1, g2⟩ := piece_stands s p hp hn
    have := spellZ_enc s p _ (piece_rune s p) (stands_bts s _ p g1)
    rw [g2, hz2] at this
    exact ⟨this, g1⟩
  have e0 : hallmarkref02_at.l0 (k + 2) s p z = hallmarkref02_at.j1 (k + 1) s p z true := by
    rw [at_l0_pos (k + 1) s p z hz5, hw, decide_eq_true hle]
  rw [e0, at_j1_true, hw, hw1, hR, spelled_eq s hs p z h1 i4 hpz k i10]
  rw [Option.bind_some]
  by_cases hv : spellZ s p z ≥ 0
  · rw [if_pos hv]
    obtain ⟨hr, hsz⟩ := spellZ_told s p z hv
    have hL : (Lib.encodeRuneZ (spellZ s p z)).length = z := Int.ofNat.inj ((encZ_size _ hr).trans hsz)
    have i8 : 8 ≤ k := Nat.le_trans (by decide) i10
    have i5 : z < k := Nat.lt_of_le_of_lt i4 (Nat.lt_of_lt_of_le (by decide) i10)
    rw [refEnc_eq _ hr k i8, Option.bind_some, same_eq s hs p _ (by rw [hL]; exact hpz) k (by rw [hL]; exact i5), Option.bind_some]
    by_cases hst : stands (Lib.encodeRuneZ (spellZ s p z)) (s.data.toList.drop p) = true
    · left
      rw [if_pos hst]
      have hd := stands_piece s p _ hr hst
      rw [hL] at hd
      have hT : ((spellZ s p z).toNat : Int) = spellZ s p z := Int.toNat_of_nonneg hv
      unfold atZ strayAt
      rw [hd]
      have hns := not_stray (spellZ s p z) z hv hsz
      rw [decide_eq_false hns]
      congr 1
      refine Prod.ext rfl (Prod.ext rfl (Prod.ext ?_ rfl))
      exact hT.symm
    · right
      rw [if_neg hst]
      refine ⟨?_, rfl⟩
      intro hn hz2
      obtain ⟨o1, o2⟩ := own hn hz2
      rw [o1] at hst
      exact hst o2
  · right
    rw [if_neg hv]
    refine ⟨?_, rfl⟩
    intro hn hz2
    obtain ⟨o1, _⟩ := own hn hz2
    rw [o1] at hv
    exact hv (Int.natCast_nonneg _)

theorem at_last (s : ByteArray) (hs : s.size ≤ 140737488351232) (p z k : Nat) (hp : p < s.size) (hst : strayAt s p) (h : ¬ ((z : Int) ≤ 4) ∨ (wrap64 ((p : Int) + (z : Int)) = ((p + z : Nat) : Int) ∧ ¬ ((p + z : Nat) : Int) ≤ (s.size : Int))) :
    hallmarkref02_at.l0 (k + 2) s p z = some (atZ s p) := by
  unfold hallmarkref02_at.l0
  by_cases c : (z : Int) ≤ 4
  · rw [if_pos c]
    rcases h with h | ⟨hw, h⟩
    · exact absurd c h
    · rw [hw, decide_eq_false h]
      exact at_end s hs p z k hp hst
  · rw [if_neg c]
    exact at_end s hs p z k hp hst

theorem at_width4 (s : ByteArray) (p : Nat) (hp : p < s.size) (hn : ¬ strayAt s p) : (Utf8.decode s p).2 ≤ 4 := by
  rw [← (piece_stands s p hp hn).2]
  exact (Lib.encodeRuneZ_length ((Utf8.decode s p).1 : Int)).2

theorem at_loop (s : ByteArray) (hs : s.size ≤ 140737488351232) (p : Nat) (hp : p < s.size) : ∀ (m z k : Nat), z + m = 5 → 1 ≤ z → 2 * m + 14 ≤ k → (strayAt s p ∨ z ≤ (Utf8.decode s p).2) → hallmarkref02_at.l0 k s p z = some (atZ s p) := by
  have hwd := (Utf.at_width s p hp).2
  intro m
  induction m with
  | zero =>
    intro z k hz h1 hk hi
    obtain ⟨k, rfl⟩ : ∃ m, k = m + 2 := ⟨k - 2, (Nat.sub_add_cancel (Nat.le_trans (by decide) hk)).symm⟩
    have hz5 : z = 5 := hz
    subst hz5
    refine at_last s hs p 5 k hp ?_ (Or.inl (by decide))
    rcases hi with h | h
    · exact h
    · by_cases c : strayAt s p
      · exact c
      · exact absurd (Nat.le_trans h (at_width4 s p hp c)) (by decide)
  | succ m ih =>
    intro z k hz h1 hk hi
    obtain ⟨k, rfl⟩ : ∃ m, k = m + 2 := ⟨k - 2, (Nat.sub_add_cancel (Nat.le_trans (by omega) hk)).symm⟩
    have i4 : z ≤ 4 := by clear hi hwd ih; omega
    have hk2 : 2 * m + 14 ≤ k := by clear hi hwd ih; omega
    have hz2 : z + 1 + m = 5 := by clear hi hwd ih; omega
    have hw : wrap64 ((p : Int) + (z : Int)) = ((p + z : Nat) : Int) := by clear hi hwd ih; unfold wrap64; omega
    have hw1 : wrap64 ((z : Int) + 1) = ((z + 1 : Nat) : Int) := by clear hi hwd ih; unfold wrap64; omega
    by_cases hpz : p + z ≤ s.size
    · rcases at_round s hs p z k hp h1 i4 hpz (Nat.le_trans (Nat.le_trans (by decide) (Nat.le_add_left 14 (2 * m))) hk2) (Int.ofNat_le.2 i4) hw hw1 (Int.ofNat_le.2 hpz) _ rfl with h | ⟨hne, h⟩
      · exact h
      · rw [h]
        refine ih (z + 1) k hz2 (Nat.le_add_left 1 z) hk2 ?_
        by_cases c : strayAt s p
        · exact Or.inl c
        · rcases hi with g | g
          · exact Or.inl g
          · exact Or.inr (Nat.lt_of_le_of_ne g (Ne.symm (hne c)))
    · refine at_last s hs p z k hp ?_ (Or.inr ⟨hw, fun g => hpz (Int.ofNat_le.1 g)⟩)
      rcases hi with h | h
      · exact h
      · exact absurd (Nat.le_trans (Nat.add_le_add_left h p) hwd) hpz

theorem refAt_eq (s : ByteArray) (hs : s.size ≤ 140737488351232) (p : Nat) (hp : p < s.size) (k : Nat) (hk : 24 ≤ k) : hallmarkref02_at.f k s p = some (atZ s p) :=
  at_loop s hs p hp 4 1 k rfl (Nat.le_refl _) (Nat.le_trans (by decide) hk) (Or.inr (Utf.at_width s p hp).1)

end Go.Proofs.YtfkianfddjccgaaDoor.U
