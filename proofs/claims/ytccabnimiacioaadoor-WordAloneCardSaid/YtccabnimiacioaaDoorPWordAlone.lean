/- Plain law: a name that is plain is one token. -/
import Derived.Test.YtccabnimiacioaaDoorUL3x3
import Derived.Test.YtccabnimiacioaaDoorPWordKnown
namespace Go.Proofs.YtccabnimiacioaaDoor.U
open Go.RowKit Go.Proofs.YtccabnimiacioaaDoorW.PrintWords
set_option linter.unusedSimpArgs false

theorem plain_total (t : ByteArray) (h : t.size ≤ 140737488351232) : word_Plain.f t = some (plainB t) := by
  have : ∃ b, word_Plain.f t = some b := by
    have hn : ∃ b, word_Named.f t = some b := by
      unfold word_Named.f
      by_cases c : t.size = 0
      · rw [if_pos c]
        exact ⟨_, rfl⟩
      · rw [if_neg c, if_pos h, letter_some, Option.bind_some]
        split <;> exact ⟨_, rfl⟩
    obtain ⟨b, hb⟩ := hn
    unfold word_Plain.f
    rw [hb, Option.bind_some]
    cases b
    · exact ⟨_, rfl⟩
    · rw [if_pos rfl, if_pos (by omega), if_pos (by omega)]
      unfold strings_Contains.f
      rw [if_pos (Or.inr (by decide)), Option.bind_some]
      exact ⟨_, rfl⟩
  obtain ⟨b, hb⟩ := this
  unfold plainB
  rw [hb]
  cases b <;> rfl

theorem skip_letter (s : ByteArray) (h0 : 0 < s.size) (hl : letterB (bt s 0) = true) : skipZ s (s.size + 1) 0 = 0 := by
  have hr := letter_range _ hl
  have hb0 : runEnd blankB s (s.size - 0) 0 = 0 := by
    obtain ⟨g, hg⟩ : ∃ g, s.size = g + 1 := ⟨s.size - 1, by omega⟩
    rw [Nat.sub_zero, hg]
    unfold runEnd
    rw [if_pos h0]
    have := letter_not_blank _ hl
    rw [show (((0 : Nat) : Int)) = (0 : Int) from rfl, this, if_neg (by decide)]
  unfold skipZ
  rw [hb0, if_neg (by omega), if_pos (by show bt s 0 ≠ 35; omega)]
theorem skip_end (s : ByteArray) : skipZ s (s.size + 1 - s.size) s.size = s.size := by
  rw [show s.size + 1 - s.size = 0 + 1 by omega]
  unfold skipZ
  rw [Nat.sub_self]
  show (if s.size = s.size then s.size else _) = s.size
  rw [if_pos rfl]
theorem scanR_plain (s : ByteArray) (hp : plainB s = true) : scanR s = ([⟨1, 0, (s.size : Int), s⟩], 0, 0) := by
  obtain ⟨h0, hl, hrun⟩ := plain_facts s hp
  have hr := letter_range _ hl
  have hone : oneR s 0 [] = ⟨0, s.size, 1, s, []⟩ := by
    unfold oneR
    rw [show (((0 : Nat) : Int)) = (0 : Int) from rfl, if_neg (by omega), if_pos hl, Nat.sub_zero, hrun, whole, if_pos hp]
  unfold scanR
  rw [skip_letter s h0 hl]
  unfold scanZ
  rw [if_pos h0, hone]
  show (if (0 : Int) = 0 then scanZ s s.size (skipZ s (s.size + 1 - s.size) s.size) ([] ++ [⟨1, ((0 : Nat) : Int), (s.size : Int), s⟩]) [] else _) = _
  rw [if_pos (rfl : (0 : Int) = 0), skip_end]
  obtain ⟨g, hg⟩ : ∃ g, s.size = g + 1 := ⟨s.size - 1, by omega⟩
  rw [hg]
  unfold scanZ
  rw [if_neg (by omega), if_pos rfl]
  rw [← hg]
  rfl

theorem pure_WordAlone (a0 : ByteArray) (h0 : a0.size ≤ 140737488351232) : ∃ k, hallmarklaw16_WordAlone.f k a0 = some true := by
  refine ⟨20, ?_⟩
  unfold hallmarklaw16_WordAlone.f
  rw [known_at 20 (Nat.le_refl _), Option.bind_some, if_pos rfl, plain_total a0 h0, Option.bind_some]
  cases hp : plainB a0
  · rfl
  · have hsc : word_Scan.f a0 = some ([⟨1, 0, (a0.size : Int), a0⟩], 0, 0) := by
      unfold word_Scan.f
      by_cases c : a0.size ≤ 1073741824
      · rw [if_pos c, scanR_plain a0 hp]
      · rw [if_neg c, if_pos ⟨h0, hp⟩]
    rw [if_pos rfl]
    unfold hallmarklaw16_is.f
    rw [hsc, Option.bind_some]
    have hst : hallmarkkit_SameTokens.f 20 [(⟨1, 0, (a0.size : Int), a0⟩ : Tok)] [⟨1, 0, (a0.size : Int), a0⟩] = some true := by
      unfold hallmarkkit_SameTokens.f
      rw [if_pos rfl, hallmarkkit_SameTokens.l0, List.length_singleton, if_pos (show (0 : Int) < ((1 : Nat) : Int) by decide), if_pos (show (0 : Int) ≤ 0 by decide), if_pos (show (0 : Int) < ((1 : Nat) : Int) by decide)]
      have hs : hallmarkkit_SameToken.f 1 0 (a0.size : Int) a0 1 0 (a0.size : Int) a0 = some true := by
        unfold hallmarkkit_SameToken.f
        simp
      have e0 : rd_T23 [(⟨1, 0, (a0.size : Int), a0⟩ : Tok)] 0 = ⟨1, 0, (a0.size : Int), a0⟩ := rfl
      rw [e0]
      simp only
      rw [hs, Option.bind_some, if_pos rfl]
      have hw : wrap64 (0 + 1) = 1 := by unfold wrap64; decide
      rw [hw, hallmarkkit_SameTokens.l0, List.length_singleton, if_neg (show ¬ (1 : Int) < ((1 : Nat) : Int) by decide)]
    simp only
    rw [hst, Option.bind_some]
    rfl

end Go.Proofs.YtccabnimiacioaaDoor.U
