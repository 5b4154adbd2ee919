/- Plain law: what WordNamed's functions compute agrees, for every text of at most 2^47 - 4096 bytes. -/
import Derived.Test.YtikldgckdlnkpaaUL1
import Derived.Test.YtikldgckdlnkpaaContains
namespace Go.Proofs.Ytikldgckdlnkpaa.U
open Go.RowKit Go.Proofs.YtikldgckdlnkpaaW.PrintWords

theorem letter_same (c : Int) : hallmarkref16_letter.f c = word_isLetter.f c := rfl
theorem digit_same (c : Int) : hallmarkref16_digit.f c = word_isDigit.f c := rfl

theorem runEnd_all (p : Int → Bool) (s : ByteArray) : ∀ f i, i + f = s.size → runEnd p s f i = s.size → ∀ j : Nat, i ≤ j → j < s.size → p (bt s j) = true
  | 0, i, hf, _, j, h1, h2 => by omega
  | f + 1, i, hf, h, j, h1, h2 => by
    unfold runEnd at h
    rw [if_pos (by omega)] at h
    by_cases hp : p (bt s i) = true
    · rw [if_pos hp] at h
      by_cases e : j = i
      · subst e; exact hp
      · exact runEnd_all p s f (i + 1) (by omega) h j (by omega) h2
    · rw [if_neg hp] at h
      omega

/-- the reference's loop: is the rest of the text of such bytes? -/
theorem ref_loop (s : ByteArray) (hs : s.size ≤ 140737488351232) : ∀ f (i k : Nat), i + f = s.size → f < k → hallmarkref16_Named.l0 k s i = some (decide (runEnd inNameB s f i = s.size))
  | 0, i, k, hf, hk => by
    obtain ⟨k, rfl⟩ : ∃ m, k = m + 1 := ⟨k - 1, by omega⟩
    unfold hallmarkref16_Named.l0
    rw [if_neg (by omega)]
    have : runEnd inNameB s 0 i = s.size := by unfold runEnd; omega
    rw [this]
    simp
  | f + 1, i, k, hf, hk => by
    obtain ⟨k, rfl⟩ : ∃ m, k = m + 1 := ⟨k - 1, by omega⟩
    have ih := ref_loop s hs f (i + 1) k (by omega) (by omega)
    have hw : wrap64 ((i : Int) + 1) = ((i + 1 : Nat) : Int) := by unfold wrap64; omega
    have hn := inName_some (bt s i)
    unfold word_inName.f at hn
    unfold hallmarkref16_Named.l0
    rw [if_pos (by omega), if_pos (by omega), letter_same]
    obtain ⟨b, hb⟩ := isLetter_some (bt s i)
    obtain ⟨d, hd⟩ := isDigit_some (bt s i)
    rw [hb, hd] at hn
    rw [hb]
    have hr : runEnd inNameB s (f + 1) i = if inNameB (bt s i) = true then runEnd inNameB s f (i + 1) else i := by
      conv => lhs; unfold runEnd
      rw [if_pos (by omega)]
    rw [hr]
    cases b with
    | true =>
      have hn : true = inNameB (bt s i) := by simpa using hn
      simp only [Option.bind_some, if_true, hw, ih, ← hn]
    | false =>
      rw [digit_same, hd]
      have hn : d = inNameB (bt s i) := by simpa using hn
      cases d with
      | true => simp only [Option.bind_some, Bool.false_eq_true, if_true, if_false, hw, ih, ← hn]
      | false =>
        simp only [Option.bind_some, ← hn, Bool.false_eq_true, if_false]
        have : ¬ i = s.size := by omega
        simp [this]

/-- is a text a name? -/
def named (s : ByteArray) : Bool := decide (0 < s.size) && ((word_isLetter.f (bt s 0) == some true) && decide (runEnd inNameB s s.size 0 = s.size))

theorem Named_eq (s : ByteArray) (hs : s.size ≤ 140737488351232) : word_Named.f s = some (named s) := by
  unfold word_Named.f named
  by_cases h0 : s.size = 0
  · rw [if_pos h0, h0]; rfl
  · rw [if_neg h0, if_pos hs]
    obtain ⟨b, hb⟩ := isLetter_some (bt s 0)
    have : 0 < s.size := by omega
    rw [hb]
    cases b <;> simp [this]

theorem refNamed_eq (s : ByteArray) (hs : s.size ≤ 140737488351232) (k : Nat) (hk : s.size + 1 < k) : hallmarkref16_Named.f k s = some (named s) := by
  unfold hallmarkref16_Named.f named
  obtain ⟨k, rfl⟩ : ∃ m, k = m + 1 := ⟨k - 1, by omega⟩
  by_cases h0 : s.size = 0
  · rw [if_pos (by omega), h0]
    unfold hallmarkref16_Named.j0
    rfl
  · rw [if_neg (by omega), if_pos (by omega), letter_same]
    obtain ⟨b, hb⟩ := isLetter_some (bt s 0)
    have hp : 0 < s.size := by omega
    have hl := ref_loop s hs s.size 0 k (by omega) (by omega)
    rw [hb]
    cases b with
    | true =>
      simp only [Option.bind_some, Bool.not_true]
      unfold hallmarkref16_Named.j0
      simp only [Bool.false_eq_true, if_false]
      rw [show ((0 : Int) = ((0 : Nat) : Int)) from rfl, hl]
      simp [hp]
    | false =>
      simp only [Option.bind_some, Bool.not_false]
      unfold hallmarkref16_Named.j0
      simp [hp]

def ownWords : List (List UInt8) := [[100, 101, 102], [105, 102], [116, 104, 101, 110], [101, 108, 105, 102], [101, 108, 115, 101], [101, 110, 100], [97, 115], [114, 101, 100, 117, 99, 101], [102, 111, 114, 101, 97, 99, 104], [116, 114, 121], [99, 97, 116, 99, 104], [97, 110, 100], [111, 114], [108, 97, 98, 101, 108], [98, 114, 101, 97, 107], [110, 117, 108, 108], [116, 114, 117, 101], [102, 97, 108, 115, 101]]

theorem reserved_eq (s : ByteArray) : hallmarkref16_Reserved.f s = some (decide (s.data.toList ∈ ownWords)) := by
  have h : hallmarkref16_Reserved.f s = chain ownWords s.toList := rfl
  rw [h, chain_eq, Lib.toList_data]

theorem named_no_blank (s : ByteArray) (h : named s = true) : (32 : UInt8) ∉ s.data.toList ∧ s.data.toList ≠ [] := by
  unfold named at h
  simp only [Bool.and_eq_true, decide_eq_true_eq] at h
  obtain ⟨h0, _, h2⟩ := h
  constructor
  · intro hm
    obtain ⟨j, hj, he⟩ := List.getElem_of_mem hm
    have hj' : j < s.size := by rw [Lib.size_eq]; exact hj
    have ha := runEnd_all inNameB s s.size 0 (by omega) h2 j (Nat.zero_le _) hj'
    have hb : bt s j = 32 := by
      unfold bt
      rw [dif_pos (by omega)]
      have : (s[(j : Int).toNat]'(by omega)) = 32 := by
        rw [← he]
        rfl
      rw [this]
      rfl
    rw [hb] at ha
    exact absurd ha (by decide)
  · intro e
    rw [Lib.size_eq, e] at h0
    exact absurd h0 (by decide)

def plain (s : ByteArray) : Bool := named s && !decide (s.data.toList ∈ ownWords)

theorem joined_data (s : ByteArray) : (((⟨#[32]⟩ : ByteArray) ++ s) ++ (⟨#[32]⟩ : ByteArray)).data.toList = 32 :: (s.data.toList ++ [32]) := by
  simp [ByteArray.data_append]
theorem joined_size (s : ByteArray) : (((⟨#[32]⟩ : ByteArray) ++ s) ++ (⟨#[32]⟩ : ByteArray)).size = s.size + 2 := by
  rw [Lib.size_eq, joined_data, Lib.size_eq]; simp

theorem Plain_eq (s : ByteArray) (hs : s.size ≤ 140737488351232) : word_Plain.f s = some (plain s) := by
  unfold word_Plain.f plain
  rw [Named_eq s hs]
  cases h : named s with
  | false => rfl
  | true =>
    obtain ⟨h1, h2⟩ := named_no_blank s h
    simp only [Option.bind_some, if_true]
    rw [if_pos (by omega), if_pos (by omega)]
    unfold strings_Contains.f
    rw [if_pos (.inr (by decide)), joined_data]
    have hc := contains_words s.data.toList h2 h1 ownWords (by decide)
    have hd : ((⟨#[32, 100, 101, 102, 32, 105, 102, 32, 116, 104, 101, 110, 32, 101, 108, 105, 102, 32, 101, 108, 115, 101, 32, 101, 110, 100, 32, 97, 115, 32, 114, 101, 100, 117, 99, 101, 32, 102, 111, 114, 101, 97, 99, 104, 32, 116, 114, 121, 32, 99, 97, 116, 99, 104, 32, 97, 110, 100, 32, 111, 114, 32, 108, 97, 98, 101, 108, 32, 98, 114, 101, 97, 107, 32, 110, 117, 108, 108, 32, 116, 114, 117, 101, 32, 102, 97, 108, 115, 101, 32]⟩ : ByteArray)).data.toList = 32 :: lined ownWords := by decide
    rw [hd, hc]
    rfl

theorem refPlain_eq (s : ByteArray) (hs : s.size ≤ 140737488351232) (k : Nat) (hk : s.size + 1 < k) : hallmarkref16_Plain.f k s = some (plain s) := by
  unfold hallmarkref16_Plain.f plain
  rw [refNamed_eq s hs k hk, reserved_eq]
  cases named s <;> rfl

theorem WordNamed_pure (s : ByteArray) (hs : s.size ≤ 140737488351232) : ∃ k, hallmarklaw16_WordNamed.f k s = some true := by
  refine ⟨s.size + 2, ?_⟩
  unfold hallmarklaw16_WordNamed.f
  rw [Named_eq s hs, refNamed_eq s hs _ (by omega), Plain_eq s hs, refPlain_eq s hs _ (by omega), Plain_eq _ (by decide), Plain_eq _ (by decide)]
  have h1 : plain ⟨#[109, 97, 112]⟩ = true := by decide
  have h2 : plain ⟨#[97, 110, 100]⟩ = false := by decide
  simp [h1, h2]

end Go.Proofs.Ytikldgckdlnkpaa.U
