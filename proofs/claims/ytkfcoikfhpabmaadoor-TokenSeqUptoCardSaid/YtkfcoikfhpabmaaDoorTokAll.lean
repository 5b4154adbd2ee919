/- The tokens hang on the rest of a text alone: two texts one behind the other. Plain Lean. -/
import Derived.Test.YtkfcoikfhpabmaaDoorUL0x3
import Derived.Test.YtkfcoikfhpabmaaDoorUtf
import Derived.Test.YtkfcoikfhpabmaaDoorEEscape
import Derived.Test.YtkfcoikfhpabmaaDoorDec
import Derived.Test.YtkfcoikfhpabmaaDoorBytes
import Derived.Test.YtkfcoikfhpabmaaDoorUtf2
import Derived.Test.YtkfcoikfhpabmaaDoorEUnquote
import Derived.Test.YtkfcoikfhpabmaaDoorUL0x1
import Derived.Test.YtkfcoikfhpabmaaDoorUL0x2
namespace Go.Proofs.YtkfcoikfhpabmaaDoor.U
open Go.RowKit Go.Proofs.YtkfcoikfhpabmaaDoorW.PrintWords
set_option linter.unusedSimpArgs false
set_option linter.unusedVariables false

theorem formed_l0 (t : ByteArray) (h : t.size ≤ 1073741824) : ∀ (n i k : Nat), i + n = t.size → n < k → ∃ b, tens_Formed.l0 k t t.size i = some b
  | 0, i, k, hi, hk => by
    obtain ⟨k, rfl⟩ : ∃ m, k = m + 1 := ⟨k - 1, by omega⟩
    rw [tens_Formed.l0, if_neg (by omega)]
    exact ⟨_, rfl⟩
  | n + 1, i, k, hi, hk => by
    obtain ⟨k, rfl⟩ : ∃ m, k = m + 1 := ⟨k - 1, by omega⟩
    have hw : wrap64 ((i : Int) + 1) = ((i + 1 : Nat) : Int) := by unfold wrap64; omega
    have ih := formed_l0 t h n (i + 1) k (by omega) (by omega)
    rw [tens_Formed.l0, if_pos (by omega), if_pos (by omega), if_pos (by omega), hw]
    by_cases a : bt t (i : Int) < 48
    · rw [if_pos a]
      exact ⟨_, rfl⟩
    · rw [if_neg a]
      by_cases b : bt t (i : Int) > 57
      · rw [if_pos b]
        exact ⟨_, rfl⟩
      · rw [if_neg b]
        exact ih
theorem formed_j2 (t : ByteArray) (h : t.size ≤ 1073741824) (x : Bool) (k : Nat) (hk : t.size + 2 ≤ k) : ∃ b, tens_Formed.j2 k t x = some b := by
  obtain ⟨k, rfl⟩ : ∃ m, k = m + 1 := ⟨k - 1, by omega⟩
  rw [tens_Formed.j2]
  cases x
  · rw [if_neg (by decide)]
    exact formed_l0 t h t.size 0 k (by omega) (by omega)
  · exact ⟨_, rfl⟩
theorem formed_j1 (t : ByteArray) (h : t.size ≤ 1073741824) (k : Nat) (hk : t.size + 3 ≤ k) : ∃ b, tens_Formed.j1 k t = some b := by
  obtain ⟨k, rfl⟩ : ∃ m, k = m + 1 := ⟨k - 1, by omega⟩
  rw [tens_Formed.j1]
  by_cases a : t.toList = []
  · rw [if_pos a]
    exact formed_j2 t h _ k (by omega)
  · have h0 : 0 < t.size := by
      rcases Nat.eq_zero_or_pos t.size with e | e
      · exfalso
        apply a
        rw [ByteArray.toList_eq]
        exact List.eq_nil_of_length_eq_zero (by rw [← Lib.size_eq]; exact e)
      · exact e
    rw [if_neg a, if_pos (by omega)]
    exact formed_j2 t h _ k (by omega)
theorem formed_f (t : ByteArray) (h : t.size ≤ 1073741824) : ∃ b, tens_Formed.f (t.size + 6) t = some b := by
  have j0 : ∀ x : Bool, (x = true → 1 ≤ t.size) → ∃ b, tens_Formed.j0 (t.size + 6) t x = some b := by
    intro x hx
    rw [tens_Formed.j0]
    cases x
    · rw [if_neg (by decide)]
      exact formed_j1 t h _ (by omega)
    · have := hx rfl
      rw [if_pos rfl, if_pos (by omega)]
      exact formed_j1 _ (by rw [ByteArray.size_extract]; omega) _ (by rw [ByteArray.size_extract]; omega)
  unfold tens_Formed.f
  split
  · exact ⟨_, rfl⟩
  · split
    · exact j0 false (by simp)
    · rename_i a
      have h0 : 0 < t.size := by
        rcases Nat.eq_zero_or_pos t.size with e | e
        · exfalso
          apply a
          rw [ByteArray.toList_eq]
          exact List.eq_nil_of_length_eq_zero (by rw [← Lib.size_eq]; exact e)
        · exact e
      rw [if_pos (by omega)]
      exact j0 _ (fun _ => h0)
def formedB (t : ByteArray) : Bool := (tens_Formed.f (t.size + 6) t) == some true
theorem formed_some (t : ByteArray) (h : t.size ≤ 1073741824) : tens_Formed.f (t.size + 6) t = some (formedB t) := by
  obtain ⟨b, hb⟩ := formed_f t h
  unfold formedB
  rw [hb]
  cases b <;> rfl

end Go.Proofs.YtkfcoikfhpabmaaDoor.U

namespace Go.Proofs.YtkfcoikfhpabmaaDoor.U
open Go.RowKit Go.Proofs.YtkfcoikfhpabmaaDoorW.PrintWords
set_option linter.unusedSimpArgs false
set_option linter.unusedVariables false

/-- two texts have the same bytes from two places on -/
def Agree (s S : ByteArray) (i j n : Nat) : Prop := i + n ≤ s.size ∧ j + n ≤ S.size ∧ ∀ k, k < n → bt s ((i + k : Nat) : Int) = bt S ((j + k : Nat) : Int)
theorem Agree.sub {s S : ByteArray} {i j n : Nat} (h : Agree s S i j n) (k m : Nat) (hk : k + m ≤ n) : Agree s S (i + k) (j + k) m := by
  obtain ⟨h1, h2, h3⟩ := h
  refine ⟨by omega, by omega, fun q hq => ?_⟩
  have := h3 (k + q) (by omega)
  rw [show i + k + q = i + (k + q) by omega, show j + k + q = j + (k + q) by omega]
  exact this
theorem Agree.head {s S : ByteArray} {i j n : Nat} (h : Agree s S i j n) (hn : 0 < n) : bt s (i : Int) = bt S (j : Int) := h.2.2 0 hn
theorem Agree.at {s S : ByteArray} {i j n : Nat} (h : Agree s S i j n) (k : Nat) (hk : k < n) : bt s ((i + k : Nat) : Int) = bt S ((j + k : Nat) : Int) := h.2.2 k hk

theorem byte_eq (s S : ByteArray) (i j : Nat) (hi : i < s.size) (hj : j < S.size) (h : bt s (i : Int) = bt S (j : Int)) : s.data.toList[i]? = S.data.toList[j]? := by
  have h1 : i < s.data.toList.length := by rw [← Lib.size_eq]; exact hi
  have h2 : j < S.data.toList.length := by rw [← Lib.size_eq]; exact hj
  rw [← getD_bt s i hi, ← getD_bt S j hj, List.getD_eq_getElem?_getD, List.getD_eq_getElem?_getD, List.getElem?_eq_getElem h1, List.getElem?_eq_getElem h2] at h
  rw [List.getElem?_eq_getElem h1, List.getElem?_eq_getElem h2]
  simp only [Option.getD_some] at h
  congr 1
  apply UInt8.toNat_inj.1
  omega
theorem Agree.take {s S : ByteArray} {i j n : Nat} (h : Agree s S i j n) : (s.data.toList.drop i).take n = (S.data.toList.drop j).take n := by
  obtain ⟨h1, h2, h3⟩ := h
  apply List.ext_getElem?
  intro k
  by_cases hk : k < n
  · rw [List.getElem?_take_of_lt hk, List.getElem?_take_of_lt hk, List.getElem?_drop, List.getElem?_drop]
    exact byte_eq s S (i + k) (j + k) (by omega) (by omega) (h3 k hk)
  · rw [List.getElem?_eq_none (by rw [List.length_take]; omega), List.getElem?_eq_none (by rw [List.length_take]; omega)]
theorem Agree.extract {s S : ByteArray} {i j n : Nat} (h : Agree s S i j n) (m : Nat) (hm : m ≤ n) : s.extract i (i + m) = S.extract j (j + m) := by
  apply ByteArray.ext
  apply Array.ext'
  have := (h.sub 0 m (by omega)).take
  rw [Lib.extract_data, Lib.extract_data, show i + m - i = m by omega, show j + m - j = m by omega]
  exact this

/-- where a run of bytes ends -/
def runEnd (p : Int → Bool) (s : ByteArray) : Nat → Nat → Nat
  | 0, i => i
  | f + 1, i => if i < s.size then (if p (bt s i) = true then runEnd p s f (i + 1) else i) else i

theorem runEnd_bounds (p : Int → Bool) (s : ByteArray) : ∀ f i, i ≤ s.size → i ≤ runEnd p s f i ∧ runEnd p s f i ≤ s.size
  | 0, i, h => ⟨Nat.le_refl _, h⟩
  | f + 1, i, h => by
    unfold runEnd
    split
    · split
      · have := runEnd_bounds p s f (i + 1) (by omega)
        omega
      · omega
    · omega

/-! runs -/
theorem runEnd_unique (p : Int → Bool) (s : ByteArray) : ∀ (f i e : Nat), i ≤ e → e ≤ s.size → s.size - i ≤ f → (∀ k, i ≤ k → k < e → p (bt s (k : Int)) = true) → (e < s.size → p (bt s (e : Int)) = false) → runEnd p s f i = e
  | 0, i, e, h1, h2, h3, h4, h5 => by
    show i = e
    omega
  | f + 1, i, e, h1, h2, h3, h4, h5 => by
    rw [runEnd]
    by_cases hi : i < s.size
    · rw [if_pos hi]
      by_cases he : i = e
      · subst he
        rw [h5 hi, if_neg (by decide)]
      · rw [h4 i (Nat.le_refl _) (by omega), if_pos rfl]
        exact runEnd_unique p s f (i + 1) e (by omega) h2 (by omega) (fun k a b => h4 k (by omega) b) h5
    · rw [if_neg hi]
      omega
theorem runEnd_spec (p : Int → Bool) (s : ByteArray) : ∀ (f i : Nat), i ≤ s.size → s.size - i ≤ f → (∀ k, i ≤ k → k < runEnd p s f i → p (bt s (k : Int)) = true) ∧ (runEnd p s f i < s.size → p (bt s (runEnd p s f i : Nat)) = false)
  | 0, i, h1, h2 => by
    have e : runEnd p s 0 i = i := rfl
    rw [e]
    exact ⟨fun k a b => by omega, fun h => by omega⟩
  | f + 1, i, h1, h2 => by
    rw [runEnd]
    by_cases hi : i < s.size
    · rw [if_pos hi]
      cases hp : p (bt s (i : Int))
      · rw [if_neg (by decide)]
        exact ⟨fun k a b => by omega, fun _ => hp⟩
      · rw [if_pos rfl]
        have ih := runEnd_spec p s f (i + 1) (by omega) (by omega)
        refine ⟨fun k a b => ?_, ih.2⟩
        by_cases hk : k = i
        · subst hk
          exact hp
        · exact ih.1 k (by omega) b
    · rw [if_neg hi]
      exact ⟨fun k a b => by omega, fun h => by omega⟩
theorem run_local (p : Int → Bool) (s S : ByteArray) (i j n : Nat) (h : Agree s S i j n) (hr : runEnd p s (s.size - i) i = i + n) (hstop : j + n < S.size → p (bt S ((j + n : Nat) : Int)) = false) : runEnd p S (S.size - j) j = j + n := by
  have h1 := h.1
  have h2 := h.2.1
  have hs := runEnd_spec p s (s.size - i) i (by omega) (Nat.le_refl _)
  rw [hr] at hs
  refine runEnd_unique p S _ j (j + n) (by omega) h2 (Nat.le_refl _) (fun k a b => ?_) hstop
  have := h.at (k - j) (by omega)
  rw [show j + (k - j) = k by omega] at this
  rw [← this]
  exact hs.1 (i + (k - j)) (by omega) (by omega)

/-! escapes and runes -/
theorem num_local (t T : ByteArray) (h : ∀ k, k < 6 → bt t (k : Nat) = bt T (k : Nat)) (ht : 6 ≤ t.size) (hT : 6 ≤ T.size) : numberedZ T = numberedZ t := by
  have e0 : bt t 0 = bt T 0 := h 0 (by omega)
  have e1 : bt t 1 = bt T 1 := h 1 (by omega)
  have e2 : bt t 2 = bt T 2 := h 2 (by omega)
  have e3 : bt t 3 = bt T 3 := h 3 (by omega)
  have e4 : bt t 4 = bt T 4 := h 4 (by omega)
  have e5 : bt t 5 = bt T 5 := h 5 (by omega)
  have ea : accZ T 4 = accZ t 4 := by
    show accZ T 3 * 16 + digitZ (bt T ((2 + 3 : Nat) : Int)) = accZ t 3 * 16 + digitZ (bt t ((2 + 3 : Nat) : Int))
    show ((((0 * 16 + digitZ (bt T ((2 + 0 : Nat) : Int))) * 16 + digitZ (bt T ((2 + 1 : Nat) : Int))) * 16 + digitZ (bt T ((2 + 2 : Nat) : Int))) * 16 + digitZ (bt T ((2 + 3 : Nat) : Int))) = ((((0 * 16 + digitZ (bt t ((2 + 0 : Nat) : Int))) * 16 + digitZ (bt t ((2 + 1 : Nat) : Int))) * 16 + digitZ (bt t ((2 + 2 : Nat) : Int))) * 16 + digitZ (bt t ((2 + 3 : Nat) : Int)))
    rw [h (2 + 0) (by omega), h (2 + 1) (by omega), h (2 + 2) (by omega), h (2 + 3) (by omega)]
  have en : numZ T = numZ t := by
    unfold numZ
    rw [e2, e3, e4, e5, ea]
  unfold numberedZ
  rw [e0, e1, en]
  by_cases c : bt T 0 = 92 ∧ bt T 1 = 117
  · rw [if_pos ⟨hT, c⟩, if_pos ⟨ht, c⟩]
  · rw [if_neg (fun g => c g.2), if_neg (fun g => c g.2)]
theorem bt_ext (s : ByteArray) (p j : Nat) (h : p + j < s.size) : bt (s.extract p s.size) (j : Int) = bt s ((p + j : Nat) : Int) := by
  have hl : j < (s.extract p s.size).size := by rw [ByteArray.size_extract]; omega
  have hd : (s.extract p s.size).data.toList = s.data.toList.drop p := by rw [Lib.extract_data, List.take_of_length_le (by rw [List.length_drop, ← Lib.size_eq]; omega)]
  rw [← getD_bt s (p + j) h, ← getD_bt (s.extract p s.size) j hl, hd]
  simp [List.getD_eq_getElem?_getD, List.getElem?_drop]
theorem esc_local (t T : ByteArray) (n : Nat) (h : ∀ k, k < n → bt t (k : Nat) = bt T (k : Nat)) (hn : n ≤ t.size) (hN : n ≤ T.size) (he : (escT t).2.2 = 0) (hc : (escT t).2.1 ≤ n) : escT T = escT t := by
  have hr := escT_range t he
  have b0 : bt t 0 = bt T 0 := h 0 (by omega)
  have b1 : bt t 1 = bt T 1 := h 1 (by omega)
  unfold escT escV at he hc ⊢
  by_cases g : numberedZ t < 0
  · rw [if_pos g] at he hc ⊢
    by_cases g2 : 2 ≤ t.size ∧ bt t 0 = 92 ∧ 0 ≤ shortZ (bt t 1)
    · rw [if_pos g2] at he hc ⊢
      have h117 : bt t 1 ≠ 117 := by
        intro e
        rw [e] at g2
        have := g2.2.2
        revert this
        decide
      have hT : numberedZ T = -1 := by
        unfold numberedZ
        rw [if_neg (by rw [← b1]; exact fun g => h117 g.2.2)]
      simp only at hc
      rw [hT, if_pos (by decide), if_pos (by rw [← b0, ← b1]; exact ⟨by omega, g2.2⟩), b1]
    · rw [if_neg g2] at he
      simp at he
  · rw [if_neg g] at he hc ⊢
    have h6 := (numberedZ_range t).2.2 (by omega)
    by_cases g1 : 56320 ≤ numberedZ t ∧ numberedZ t ≤ 57343
    · rw [if_pos g1] at he
      simp at he
    · rw [if_neg g1] at he hc ⊢
      by_cases g3 : ¬ (55296 ≤ numberedZ t ∧ numberedZ t ≤ 56319)
      · rw [if_pos g3] at he hc ⊢
        simp only at hc
        have e := num_local t T (fun k hk => h k (by omega)) h6 (by omega)
        rw [e, if_neg g, if_neg g1, if_pos g3]
      · rw [if_neg g3] at he hc ⊢
        by_cases g4 : 56320 ≤ numberedZ (t.extract 6 t.size) ∧ numberedZ (t.extract 6 t.size) ≤ 57343
        · rw [if_pos g4] at he hc ⊢
          simp only at hc
          have e := num_local t T (fun k hk => h k (by omega)) h6 (by omega)
          have h12 := (numberedZ_range (t.extract 6 t.size)).2.2 (by omega)
          have e2 := num_local (t.extract 6 t.size) (T.extract 6 T.size) (fun k hk => by rw [bt_ext t 6 k (by omega), bt_ext T 6 k (by omega)]; exact h (6 + k) (by omega)) h12 (by rw [ByteArray.size_extract]; omega)
          rw [e, e2, if_neg g, if_neg g1, if_neg g3, if_pos g4]
        · rw [if_neg g4] at he
          simp at he
theorem decodeN_more (n N b0 b1 b2 b3 c1 c2 c3 : Nat) (hn : n ≤ N) (e1 : 1 < n → c1 = b1) (e2 : 2 < n → c2 = b2) (e3 : 3 < n → c3 = b3) (hw : ¬ ((Lib.decodeN n b0 c1 c2 c3).1 = 65533 ∧ (Lib.decodeN n b0 c1 c2 c3).2 = 1)) :
    Lib.decodeN N b0 b1 b2 b3 = Lib.decodeN n b0 c1 c2 c3 := by
  rcases Lib.decodeN_shape n b0 c1 c2 c3 with ⟨a0, e⟩ | ⟨a0, a1, a2, a3, e⟩ | ⟨a0, a1, a2, a3, a4, a5, e⟩ | ⟨a0, a1, a2, a3, a4, a5, a6, e⟩ | e
  · rw [e, Utf.decodeN_1 _ _ _ _ _ a0]
  · obtain rfl := e1 (by omega)
    rw [e]
    exact Utf.decodeN_2 _ _ _ _ _ a0 (by omega) a2 a3
  · obtain rfl := e1 (by omega)
    obtain rfl := e2 (by omega)
    rw [e]
    exact Utf.decodeN_3 _ _ _ _ _ a0 (by omega) a2 a3 a4 a5
  · obtain rfl := e1 (by omega)
    obtain rfl := e2 (by omega)
    obtain rfl := e3 (by omega)
    rw [e]
    exact Utf.decodeN_4 _ _ _ _ _ a0 (by omega) a2 a3 a4 a5 a6
  · rw [e] at hw
    simp at hw
theorem decode_local (s S : ByteArray) (p q n : Nat) (h : Agree s S p q n) (hn : 0 < n) (hw : (Utf8.decode s p).2 ≤ n) (hne : ¬ ((Utf8.decode s p).1 = 65533 ∧ (Utf8.decode s p).2 = 1)) : Utf8.decode S q = Utf8.decode s p := by
  have h1 := h.1
  have h2 := h.2.1
  have ht := h.take
  rw [← Lib.decodeL_drop] at hw hne ⊢
  rw [← Lib.decodeL_drop]
  have l1 : s.data.toList.drop p ≠ [] := Utf.drop_ne s p (by omega)
  have l2 : S.data.toList.drop q ≠ [] := Utf.drop_ne S q (by omega)
  have e := Utf.decodeL_take _ n l1 hw
  rw [ht] at e
  rw [← e] at hne ⊢
  have len : (S.data.toList.drop q).length = S.size - q := by rw [List.length_drop, ← Lib.size_eq]
  generalize S.data.toList.drop q = l at *
  rw [Lib.decodeL_N (l.take n)] at hne ⊢
  rw [Lib.decodeL_N l]
  have h0 : (l.take n).getD 0 0 = l.getD 0 0 := Utf.getD_take l n 0 (by omega)
  rw [h0, List.length_take] at hne ⊢
  refine decodeN_more _ _ _ _ _ _ _ _ _ (by omega) (fun g => ?_) (fun g => ?_) (fun g => ?_) hne
  · rw [Utf.getD_take l n 1 (by omega)]
  · rw [Utf.getD_take l n 2 (by omega)]
  · rw [Utf.getD_take l n 3 (by omega)]

end Go.Proofs.YtkfcoikfhpabmaaDoor.U

namespace Go.Proofs.YtkfcoikfhpabmaaDoor.U
open Go.RowKit Go.Proofs.YtkfcoikfhpabmaaDoorW.PrintWords
set_option linter.unusedSimpArgs false
set_option linter.unusedVariables false

def letterT (c : Int) : Bool := (token_isLetter.f c) == some true
def digitT (c : Int) : Bool := (token_isDigit.f c) == some true
def wordT (c : Int) : Bool := letterT c || digitT c
def numT (c : Int) : Bool := letterT c || digitT c || (c == 43 || c == 45 || c == 46)
def blankT (c : Int) : Bool := c == 32 || c == 9 || c == 10 || c == 13
/-- the kind of a mark; 0: none -/
def markT (c : Int) : Int := if c = 123 then 1 else if c = 125 then 2 else if c = 91 then 3 else if c = 93 then 4 else if c = 58 then 5 else if c = 44 then 6 else 0
/-- the kind of a word; 0: none -/
def wordK (t : ByteArray) : Int := if t.data.toList = [110, 117, 108, 108] then 7 else if t.data.toList = [102, 97, 108, 115, 101] then 8 else if t.data.toList = [116, 114, 117, 101] then 9 else 0
/-- a numeral's text -/
def numB (t : ByteArray) : ByteArray := if t.data.toList = [45, 48] then ⟨#[48]⟩ else t

/-- what one token leaves: the error, the fault's place, the kind, the place behind it, what it says -/
structure TokR where
  e : Int
  place : Int
  kind : Int
  pos : Nat
  text : ByteArray
def tokR (s : ByteArray) (i : Nat) : TokR :=
  if markT (bt s (i : Int)) ≠ 0 then ⟨0, 0, markT (bt s (i : Int)), i + 1, ⟨#[]⟩⟩
  else if letterT (bt s (i : Int)) = true then
    if wordK (s.extract i (runEnd wordT s (s.size - i) i)) = 0 then ⟨41, i, 0, i, ⟨#[]⟩⟩
    else ⟨0, 0, wordK (s.extract i (runEnd wordT s (s.size - i) i)), runEnd wordT s (s.size - i) i, ⟨#[]⟩⟩
  else if digitT (bt s (i : Int)) = true ∨ bt s (i : Int) = 45 then
    if formedB (numB (s.extract i (runEnd numT s (s.size - i) i))) = true then ⟨0, 0, 10, runEnd numT s (s.size - i) i, numB (s.extract i (runEnd numT s (s.size - i) i))⟩
    else ⟨42, i, 0, i, ⟨#[]⟩⟩
  else if bt s (i : Int) = 34 then
    if (unqAt s i).2.2 = 0 then ⟨0, 0, 11, (unqAt s i).2.1.toNat, (unqAt s i).1⟩
    else ⟨(unqAt s i).2.2, (unqAt s i).2.1, 0, i, ⟨#[]⟩⟩
  else ⟨40, i, 0, i, ⟨#[]⟩⟩

end Go.Proofs.YtkfcoikfhpabmaaDoor.U

namespace Go.Proofs.YtkfcoikfhpabmaaDoor.U
open Go.RowKit Go.Proofs.YtkfcoikfhpabmaaDoorW.PrintWords
set_option linter.unusedSimpArgs false
set_option linter.unusedVariables false

theorem unq_step (s : ByteArray) (f pos : Nat) (acc : List UInt8) : unq s (f + 1) pos acc =
    (if pos < s.size then
      if (Utf8.decode s pos).1 = 34 then (⟨acc.toArray⟩, (pos : Int) + 1, 0)
      else if (Utf8.decode s pos).1 < 32 then (ByteArray.empty, (pos : Int), 22)
      else if (Utf8.decode s pos).1 = 65533 ∧ (Utf8.decode s pos).2 = 1 then (ByteArray.empty, (pos : Int), 20)
      else if (Utf8.decode s pos).1 = 92 then
        if (escT (s.extract pos s.size)).2.2 = 0 then unq s f (pos + (escT (s.extract pos s.size)).2.1.toNat) (acc ++ Lib.encodeRune (escT (s.extract pos s.size)).1)
        else (ByteArray.empty, (pos : Int), (escT (s.extract pos s.size)).2.2)
      else unq s f (pos + (Utf8.decode s pos).2) (acc ++ Lib.encodeRune ((Utf8.decode s pos).1 : Int))
    else (ByteArray.empty, (s.size : Int), 21)) := by rw [unq]

/-- where a literal that is right ends -/
theorem unq_range (s : ByteArray) : ∀ (f p : Nat) (acc : List UInt8), p ≤ s.size → (unq s f p acc).2.2 = 0 → (p : Int) < (unq s f p acc).2.1 ∧ (unq s f p acc).2.1 ≤ s.size
  | 0, p, acc, _, h => by
    unfold unq at h
    simp at h
  | f + 1, p, acc, hp, h => by
    rw [unq_step] at h ⊢
    by_cases c0 : p < s.size
    · rw [if_pos c0] at h ⊢
      by_cases c1 : (Utf8.decode s p).1 = 34
      · rw [if_pos c1]
        simp only
        omega
      · rw [if_neg c1] at h ⊢
        by_cases c2 : (Utf8.decode s p).1 < 32
        · rw [if_pos c2] at h
          simp at h
        · rw [if_neg c2] at h ⊢
          by_cases c3 : (Utf8.decode s p).1 = 65533 ∧ (Utf8.decode s p).2 = 1
          · rw [if_pos c3] at h
            simp at h
          · rw [if_neg c3] at h ⊢
            by_cases c4 : (Utf8.decode s p).1 = 92
            · rw [if_pos c4] at h ⊢
              by_cases c5 : (escT (s.extract p s.size)).2.2 = 0
              · rw [if_pos c5] at h ⊢
                have hr := escT_range _ c5
                rw [ByteArray.size_extract] at hr
                have ih := unq_range s f _ _ (by omega) h
                omega
              · rw [if_neg c5] at h
                exact absurd h c5
            · rw [if_neg c4] at h ⊢
              have hw := Utf.at_width s p c0
              have ih := unq_range s f _ _ hw.2 h
              omega
    · rw [if_neg c0] at h
      simp at h

theorem decode_back (s : ByteArray) (p : Nat) (h : p < s.size) (c : Nat) (hc : c < 128) (hd : (Utf8.decode s p).1 = c) : bt s (p : Int) = (c : Int) ∧ (Utf8.decode s p).2 = 1 := by
  have e := getD_bt s p h
  have key : ∀ n b0 b1 b2 b3 : Nat, (Lib.decodeN n b0 b1 b2 b3).1 = c → b0 = c ∧ (Lib.decodeN n b0 b1 b2 b3).2 = 1 := by
    intro n b0 b1 b2 b3 hd
    rcases Lib.decodeN_shape n b0 b1 b2 b3 with ⟨c1, e1⟩ | ⟨c1, c2, c3, cv, e1⟩ | ⟨c1, c2, c3, c4, cv, cs, e1⟩ | ⟨c1, c2, c3, c4, c5, cv, cw, e1⟩ | e1
    · rw [e1] at hd ⊢
      exact ⟨hd, rfl⟩
    all_goals rw [e1] at hd
    all_goals simp only at hd
    all_goals omega
  rw [Lib.decode_N] at hd ⊢
  obtain ⟨k1, k2⟩ := key _ _ _ _ _ hd
  exact ⟨by rw [← e, k1], k2⟩

theorem decode_92 (s : ByteArray) (p : Nat) (h : p < s.size) (hd : (Utf8.decode s p).1 = 92) : (Utf8.decode s p).2 = 1 := (decode_back s p h 92 (by decide) hd).2

theorem unq_local (s S : ByteArray) : ∀ (f p : Nat) (acc : List UInt8) (q g n : Nat), (unq s f p acc).2.2 = 0 → Agree s S p q n → (unq s f p acc).2.1 = ((p + n : Nat) : Int) → S.size < q + g →
    unq S g q acc = ((unq s f p acc).1, ((q + n : Nat) : Int), 0)
  | 0, p, acc, q, g, n, h0, hA, hp, hg => by
    unfold unq at h0
    simp at h0
  | f + 1, p, acc, q, g, n, h0, hA, hp, hg => by
    have hA1 := hA.1
    have hA2 := hA.2.1
    have hrng := unq_range s (f + 1) p acc (by omega) h0
    rw [hp] at hrng
    obtain ⟨g, rfl⟩ : ∃ m, g = m + 1 := ⟨g - 1, by omega⟩
    rw [unq_step] at h0 hp ⊢
    rw [unq_step s]
    by_cases c0 : p < s.size
    · rw [if_pos c0] at h0 hp ⊢
      have hwd := Utf.at_width s p c0
      have dl : (Utf8.decode s p).2 ≤ n → ¬ ((Utf8.decode s p).1 = 65533 ∧ (Utf8.decode s p).2 = 1) → Utf8.decode S q = Utf8.decode s p := fun a b => decode_local s S p q n hA (by omega) a b
      by_cases c1 : (Utf8.decode s p).1 = 34
      · rw [if_pos c1] at hp ⊢
        simp only at hp
        have hw1 := (decode_back s p c0 34 (by decide) c1).2
        have hd := dl (by omega) (by omega)
        rw [if_pos (by omega), hd, if_pos c1]
        have : n = 1 := by omega
        subst this
        rfl
      · rw [if_neg c1] at h0 hp ⊢
        by_cases c2 : (Utf8.decode s p).1 < 32
        · rw [if_pos c2] at h0
          simp at h0
        · rw [if_neg c2] at h0 hp ⊢
          by_cases c3 : (Utf8.decode s p).1 = 65533 ∧ (Utf8.decode s p).2 = 1
          · rw [if_pos c3] at h0
            simp at h0
          · rw [if_neg c3] at h0 hp ⊢
            by_cases c4 : (Utf8.decode s p).1 = 92
            · rw [if_pos c4] at h0 hp ⊢
              by_cases c5 : (escT (s.extract p s.size)).2.2 = 0
              · rw [if_pos c5] at h0 hp ⊢
                have hr := escT_range _ c5
                have hsz : (s.extract p s.size).size = s.size - p := by rw [ByteArray.size_extract]; omega
                have hSz : (S.extract q S.size).size = S.size - q := by rw [ByteArray.size_extract]; omega
                rw [hsz] at hr
                have hrg := unq_range s f _ _ (by omega) h0
                rw [hp] at hrg
                have he : escT (S.extract q S.size) = escT (s.extract p s.size) := by
                  refine esc_local _ _ n (fun k hk => ?_) (by omega) (by omega) c5 (by omega)
                  rw [bt_ext s p k (by omega), bt_ext S q k (by omega)]
                  exact hA.at k hk
                have hd := dl (by rw [decode_92 s p c0 c4]; omega) c3
                rw [if_pos (by omega), hd, if_neg c1, if_neg c2, if_neg c3, if_pos c4, he, if_pos c5]
                obtain ⟨m, hm⟩ : ∃ m, (escT (s.extract p s.size)).2.1.toNat = m := ⟨_, rfl⟩
                rw [hm] at h0 hp hrg ⊢
                have hmm : 2 ≤ m := by omega
                have ih := unq_local s S f (p + m) _ (q + m) g (n - m) h0 (hA.sub m (n - m) (by omega)) (by rw [hp]; omega) (by omega)
                rw [ih, show q + m + (n - m) = q + n by omega]
              · rw [if_neg c5] at h0
                exact absurd h0 c5
            · rw [if_neg c4] at h0 hp ⊢
              have hrg := unq_range s f _ _ hwd.2 h0
              rw [hp] at hrg
              have hd := dl (by omega) c3
              rw [if_pos (by omega), hd, if_neg c1, if_neg c2, if_neg c3, if_neg c4]
              obtain ⟨m, hm⟩ : ∃ m, (Utf8.decode s p).2 = m := ⟨_, rfl⟩
              rw [hm] at h0 hp hrg hwd ⊢
              have ih := unq_local s S f (p + m) _ (q + m) g (n - m) h0 (hA.sub m (n - m) (by omega)) (by rw [hp]; omega) (by omega)
              rw [ih, show q + m + (n - m) = q + n by omega]
    · rw [if_neg c0] at h0
      simp at h0

/-- a blank, or the end -/
def StopT (c : Int) : Prop := c = 32 ∨ c = 9 ∨ c = 10 ∨ c = 13
theorem StopT.word {c : Int} (h : StopT c) : wordT c = false := by
  rcases h with rfl | rfl | rfl | rfl <;> decide
theorem StopT.num {c : Int} (h : StopT c) : numT c = false := by
  rcases h with rfl | rfl | rfl | rfl <;> decide

theorem runEnd_first (p : Int → Bool) (s : ByteArray) (i : Nat) (hi : i < s.size) (h : p (bt s (i : Int)) = true) : i < runEnd p s (s.size - i) i ∧ runEnd p s (s.size - i) i ≤ s.size := by
  have := runEnd_bounds p s (s.size - (i + 1)) (i + 1) (by omega)
  rw [show s.size - i = (s.size - (i + 1)) + 1 by omega, runEnd, if_pos hi, if_pos h]
  omega

theorem unqAt_at (s : ByteArray) (i : Nat) (hi : i < s.size) (h : bt s (i : Int) = 34) : unqAt s (i : Int) = unq s s.size (i + 1) [] := by
  unfold unqAt
  rw [if_neg (by omega), if_neg (by simp [h]), Int.toNat_natCast]

/-- a token lies in the text and is not empty -/
theorem tokR_range (s : ByteArray) (i : Nat) (hi : i < s.size) (he : (tokR s i).e = 0) : i < (tokR s i).pos ∧ (tokR s i).pos ≤ s.size := by
  unfold tokR at he ⊢
  by_cases c1 : markT (bt s (i : Int)) ≠ 0
  · rw [if_pos c1]
    simp only
    omega
  · rw [if_neg c1] at he ⊢
    by_cases c2 : letterT (bt s (i : Int)) = true
    · rw [if_pos c2] at he ⊢
      by_cases c3 : wordK (s.extract i (runEnd wordT s (s.size - i) i)) = 0
      · rw [if_pos c3] at he
        simp at he
      · rw [if_neg c3]
        exact runEnd_first wordT s i hi (by unfold wordT; rw [c2]; rfl)
    · rw [if_neg c2] at he ⊢
      by_cases c4 : digitT (bt s (i : Int)) = true ∨ bt s (i : Int) = 45
      · rw [if_pos c4] at he ⊢
        by_cases c5 : formedB (numB (s.extract i (runEnd numT s (s.size - i) i))) = true
        · rw [if_pos c5]
          refine runEnd_first numT s i hi ?_
          unfold numT
          rcases c4 with c4 | c4
          · rw [c4]
            simp
          · rw [c4]
            simp
        · rw [if_neg c5] at he
          simp at he
      · rw [if_neg c4] at he ⊢
        by_cases c6 : bt s (i : Int) = 34
        · rw [if_pos c6] at he ⊢
          by_cases c7 : (unqAt s (i : Int)).2.2 = 0
          · rw [if_pos c7]
            rw [unqAt_at s i hi c6] at c7 ⊢
            have := unq_range s s.size (i + 1) [] (by omega) c7
            simp only
            omega
          · rw [if_neg c7] at he
            exact absurd he c7
        · rw [if_neg c6] at he
          simp at he

theorem tok_local (s S : ByteArray) (i j n : Nat) (hi : i < s.size) (he : (tokR s i).e = 0) (hp : (tokR s i).pos = i + n) (hA : Agree s S i j n) (hstop : j + n < S.size → StopT (bt S ((j + n : Nat) : Int))) :
    tokR S j = ⟨0, 0, (tokR s i).kind, j + n, (tokR s i).text⟩ := by
  have hrg := tokR_range s i hi he
  rw [hp] at hrg
  have hn : 0 < n := by omega
  have hA2 := hA.2.1
  have hb := hA.head hn
  unfold tokR at he hp ⊢
  rw [← hb]
  by_cases c1 : markT (bt s (i : Int)) ≠ 0
  · rw [if_pos c1] at hp ⊢
    rw [if_pos c1]
    simp only at hp ⊢
    rw [show n = 1 by omega]
  · rw [if_neg c1] at he hp ⊢
    rw [if_neg c1]
    by_cases c2 : letterT (bt s (i : Int)) = true
    · rw [if_pos c2] at he hp ⊢
      rw [if_pos c2]
      by_cases c3 : wordK (s.extract i (runEnd wordT s (s.size - i) i)) = 0
      · rw [if_pos c3] at he
        simp at he
      · rw [if_neg c3] at hp ⊢
        simp only at hp ⊢
        rw [run_local wordT s S i j n hA hp (fun h => (hstop h).word), ← hA.extract n (Nat.le_refl _)]
        rw [hp] at c3
        rw [if_neg c3, hp]
    · rw [if_neg c2] at he hp ⊢
      rw [if_neg c2]
      by_cases c4 : digitT (bt s (i : Int)) = true ∨ bt s (i : Int) = 45
      · rw [if_pos c4] at he hp ⊢
        rw [if_pos c4]
        by_cases c5 : formedB (numB (s.extract i (runEnd numT s (s.size - i) i))) = true
        · rw [if_pos c5] at hp ⊢
          simp only at hp ⊢
          rw [run_local numT s S i j n hA hp (fun h => (hstop h).num), ← hA.extract n (Nat.le_refl _)]
          rw [hp] at c5
          rw [if_pos c5, hp]
        · rw [if_neg c5] at he
          simp at he
      · rw [if_neg c4] at he hp ⊢
        rw [if_neg c4]
        by_cases c6 : bt s (i : Int) = 34
        · rw [if_pos c6] at he hp ⊢
          rw [if_pos c6]
          have hS : bt S (j : Int) = 34 := by rw [← hb]; exact c6
          rw [unqAt_at s i hi c6] at he hp ⊢
          rw [unqAt_at S j (by omega) hS]
          by_cases c7 : (unq s s.size (i + 1) []).2.2 = 0
          · rw [if_pos c7] at hp ⊢
            simp only at hp ⊢
            have hr := unq_range s s.size (i + 1) [] (by omega) c7
            have := unq_local s S s.size (i + 1) [] (j + 1) S.size (n - 1) c7 (hA.sub 1 (n - 1) (by omega)) (by omega) (by omega)
            rw [this]
            simp only
            rw [if_pos trivial, show j + 1 + (n - 1) = j + n by omega, Int.toNat_natCast]
          · rw [if_neg c7] at he
            exact absurd he c7
        · rw [if_neg c6] at he
          simp at he

end Go.Proofs.YtkfcoikfhpabmaaDoor.U

namespace Go.Proofs.YtkfcoikfhpabmaaDoor.U
open Go.RowKit Go.Proofs.YtkfcoikfhpabmaaDoorW.PrintWords
set_option linter.unusedSimpArgs false
set_option linter.unusedVariables false

abbrev Tok := S31
/-- the tokens from a place on, once some are found; the first fault and its place -/
def aheadZ (s : ByteArray) : Nat → Nat → List Tok → List Tok × Int × Int
  | 0, _, toks => (toks, 0, 0)
  | f + 1, i, toks =>
    if i < s.size then
      if blankT (bt s (i : Int)) = true then aheadZ s f (i + 1) toks
      else if (tokR s i).e = 0 then aheadZ s f (tokR s i).pos (toks ++ [⟨(tokR s i).kind, i, (tokR s i).pos, (tokR s i).text⟩])
      else (toks, (tokR s i).e, (tokR s i).place)
    else (toks, 0, 0)
theorem aheadZ_step (s : ByteArray) (f i : Nat) (toks : List Tok) : aheadZ s (f + 1) i toks =
    (if i < s.size then
      if blankT (bt s (i : Int)) = true then aheadZ s f (i + 1) toks
      else if (tokR s i).e = 0 then aheadZ s f (tokR s i).pos (toks ++ [⟨(tokR s i).kind, i, (tokR s i).pos, (tokR s i).text⟩])
      else (toks, (tokR s i).e, (tokR s i).place)
    else (toks, 0, 0)) := by rw [aheadZ]
theorem aheadZ_end (s : ByteArray) (f i : Nat) (toks : List Tok) (h : ¬ i < s.size) : aheadZ s f i toks = (toks, 0, 0) := by
  cases f with
  | zero => rfl
  | succ f => rw [aheadZ_step, if_neg h]
/-- what Scan answers -/
def tscanR (s : ByteArray) : List Tok × Int × Int := if (aheadZ s (s.size + 1) 0 []).2.1 = 0 then ((aheadZ s (s.size + 1) 0 []).1, 0, 0) else ([], (aheadZ s (s.size + 1) 0 []).2.1, (aheadZ s (s.size + 1) 0 []).2.2)

theorem drop_bt (S : ByteArray) (j : Nat) (b : UInt8) (l : List UInt8) (h : S.data.toList.drop j = b :: l) : j < S.size ∧ bt S (j : Int) = (b.toNat : Int) ∧ S.data.toList.drop (j + 1) = l := by
  have hlt : j < S.data.toList.length := by
    apply Classical.byContradiction
    intro c
    rw [List.drop_eq_nil_of_le (by omega)] at h
    cases h
  have hj : j < S.size := by rw [Lib.size_eq]; exact hlt
  rw [List.drop_eq_getElem_cons hlt] at h
  injection h with h1 h2
  refine ⟨hj, ?_, h2⟩
  rw [← getD_bt S j hj, List.getD_eq_getElem?_getD, List.getElem?_eq_getElem hlt, h1]
  rfl
theorem blankT_stop (c : Int) (h : blankT c = true) : StopT c := by
  unfold blankT at h
  simp only [Bool.or_eq_true, beq_iff_eq] at h
  unfold StopT
  omega
theorem ahead_blanks (S : ByteArray) : ∀ (gap rest : List UInt8) (j g : Nat) (toks : List Tok), (∀ c ∈ gap, blankT (c.toNat : Int) = true) → S.data.toList.drop j = gap ++ rest → aheadZ S (g + gap.length) j toks = aheadZ S g (j + gap.length) toks
  | [], rest, j, g, toks, hb, hd => rfl
  | c :: gap, rest, j, g, toks, hb, hd => by
    have hd' : S.data.toList.drop j = c :: (gap ++ rest) := hd
    have h := drop_bt S j c _ hd'
    rw [List.length_cons, ← Nat.add_assoc, aheadZ_step, if_pos h.1, if_pos (by rw [h.2.1]; exact hb c List.mem_cons_self)]
    rw [ahead_blanks S gap rest (j + 1) g toks (fun x hx => hb x (List.mem_cons_of_mem _ hx)) h.2.2]
    rw [show j + 1 + gap.length = j + (gap.length + 1) by omega]

/-- the text of tokens, so many blanks ahead of each, and some behind the last one -/
def wideT (gaps : Nat → List UInt8) (fin : List UInt8) (s : ByteArray) : Nat → List Tok → List UInt8
  | _, [] => fin
  | d, t :: l => gaps d ++ ((s.extract t.f1.toNat t.f2.toNat).data.toList ++ wideT gaps fin s (d + 1) l)
def movedT (gaps : Nat → List UInt8) : Nat → Nat → List Tok → List Tok
  | _, _, [] => []
  | d, j, t :: l => ⟨t.f0, ((j + (gaps d).length : Nat) : Int), ((j + (gaps d).length + (t.f2 - t.f1).toNat : Nat) : Int), t.f3⟩ :: movedT gaps (d + 1) (j + (gaps d).length + (t.f2 - t.f1).toNat) l

theorem agree_of_drop (s S : ByteArray) (i j n : Nat) (rest : List UInt8) (h : S.data.toList.drop j = (s.extract i (i + n)).data.toList ++ rest) (hi : i + n ≤ s.size) (hjs : j ≤ S.size) : Agree s S i j n := by
  have hl : ((s.extract i (i + n)).data.toList).length = n := by
    rw [← Lib.size_eq, ByteArray.size_extract]
    omega
  have hj : n ≤ S.size - j := by
    have := congrArg List.length h
    rw [List.length_drop, List.length_append, hl, ← Lib.size_eq] at this
    omega
  refine ⟨hi, by omega, ?_⟩
  intro k hk
  have e : (S.data.toList.drop j)[k]? = (s.data.toList.drop i)[k]? := by
    rw [h, List.getElem?_append_left (by omega), Lib.extract_data, List.getElem?_take_of_lt (by omega)]
  rw [List.getElem?_drop, List.getElem?_drop] at e
  rw [← getD_bt s (i + k) (by omega), ← getD_bt S (j + k) (by omega), List.getD_eq_getElem?_getD, List.getD_eq_getElem?_getD, e]

theorem ahead_wide (gaps : Nat → List UInt8) (fin : List UInt8) (M : Nat) (hG : ∀ d, ∀ c ∈ gaps d, blankT (c.toNat : Int) = true) (hne : ∀ d, 0 < (gaps d).length ∧ (gaps d).length ≤ M) (hF : ∀ c ∈ fin, blankT (c.toNat : Int) = true) (s : ByteArray) :
    ∀ (f i d : Nat) (toks : List Tok), i ≤ s.size → s.size < i + f → (aheadZ s f i toks).2.1 = 0 →
      ∃ new, (aheadZ s f i toks).1 = toks ++ new ∧ new.length + i ≤ s.size ∧ (wideT gaps fin s d new).length + i ≤ s.size + M * new.length + fin.length ∧ (∀ t ∈ new, 0 ≤ t.f1 ∧ t.f1 < t.f2 ∧ t.f2 ≤ s.size) ∧
        (wideT gaps fin s d new = [] ∨ ∃ c r, wideT gaps fin s d new = c :: r ∧ blankT (c.toNat : Int) = true) ∧
        ∀ (S : ByteArray) (j g : Nat) (toks2 : List Tok), S.data.toList.drop j = wideT gaps fin s d new → j ≤ S.size → S.size < j + g → aheadZ S g j toks2 = (toks2 ++ movedT gaps d j new, 0, 0)
  | 0, i, d, toks, hi, hf, _ => by omega
  | f + 1, i, d, toks, hi, hf, he => by
    rw [aheadZ_step] at he ⊢
    by_cases hp : i < s.size
    · rw [if_pos hp] at he ⊢
      by_cases hb : blankT (bt s (i : Int)) = true
      · rw [if_pos hb] at he ⊢
        obtain ⟨new, n1, n2, n3, n4, n5, n6⟩ := ahead_wide gaps fin M hG hne hF s f (i + 1) d toks (by omega) (by omega) he
        exact ⟨new, n1, by omega, by omega, n4, n5, n6⟩
      · rw [if_neg hb] at he ⊢
        by_cases h0 : (tokR s i).e = 0
        · rw [if_pos h0] at he ⊢
          have hrg := tokR_range s i hp h0
          obtain ⟨n, hn⟩ : ∃ n, (tokR s i).pos = i + n := ⟨(tokR s i).pos - i, by omega⟩
          have hloc := fun S j hA hst => tok_local s S i j n hp h0 hn hA hst
          obtain ⟨r, hr⟩ : ∃ r, tokR s i = r := ⟨_, rfl⟩
          rw [hr] at he h0 hrg hn hloc ⊢
          obtain ⟨re, rpl, rk, rp, rt⟩ := r
          simp only at he h0 hrg hn hloc ⊢
          subst hn
          obtain ⟨new, n1, n2, n3, n4, n5, n6⟩ := ahead_wide gaps fin M hG hne hF s f (i + n) (d + 1) _ (by omega) (by omega) he
          have hx : (s.extract ((i : Int)).toNat (((i + n : Nat) : Int)).toNat) = s.extract i (i + n) := rfl
          have hxl : (s.extract i (i + n)).data.toList.length = n := by
            rw [← Lib.size_eq, ByteArray.size_extract]
            omega
          have hgd := hne d
          refine ⟨⟨rk, i, ((i + n : Nat) : Int), rt⟩ :: new, by rw [n1]; simp, by rw [List.length_cons]; omega, ?_, ?_, ?_, ?_⟩
          · rw [wideT, List.length_append, List.length_append, List.length_cons, Nat.mul_succ]
            simp only
            rw [hx, hxl]
            omega
          · intro t ht
            rcases List.mem_cons.1 ht with rfl | ht
            · simp only
              omega
            · exact n4 t ht
          · refine Or.inr ?_
            rw [wideT]
            have hg1 := hG d
            cases hgg : gaps d with
            | nil =>
              rw [hgg] at hgd
              simp at hgd
            | cons c r =>
              rw [hgg] at hg1
              exact ⟨c, _, rfl, hg1 c List.mem_cons_self⟩
          · intro S j g toks2 hd hj hg
            rw [wideT] at hd
            simp only at hd
            rw [hx] at hd
            rw [movedT]
            simp only
            obtain ⟨gl, hgl⟩ : ∃ gl, (gaps d).length = gl := ⟨_, rfl⟩
            rw [hgl] at hgd ⊢
            have hd2 : S.data.toList.drop (j + gl) = (s.extract i (i + n)).data.toList ++ wideT gaps fin s (d + 1) new := by
              rw [← List.drop_drop, hd, ← hgl, List.drop_left]
            have hjl : j + gl ≤ S.size := by
              have := congrArg List.length hd
              rw [List.length_drop, List.length_append, hgl, ← Lib.size_eq] at this
              omega
            have hA := agree_of_drop s S i (j + gl) n _ hd2 (by omega) hjl
            have hA2 := hA.2.1
            have hd3 : S.data.toList.drop (j + gl + n) = wideT gaps fin s (d + 1) new := by
              rw [← List.drop_drop, hd2]
              have := List.drop_left (l₁ := (s.extract i (i + n)).data.toList) (l₂ := wideT gaps fin s (d + 1) new)
              rw [hxl] at this
              exact this
            have hstop : j + gl + n < S.size → StopT (bt S ((j + gl + n : Nat) : Int)) := by
              intro hlt
              rcases n5 with n5 | ⟨c, r, n5, n5'⟩
              · rw [n5] at hd3
                have := congrArg List.length hd3
                rw [List.length_drop, ← Lib.size_eq, List.length_nil] at this
                omega
              · rw [n5] at hd3
                rw [(drop_bt S _ _ _ hd3).2.1]
                exact blankT_stop _ n5'
            have h1 := hloc S (j + gl) hA hstop
            obtain ⟨g, rfl⟩ : ∃ m, g = m + 1 + gl := ⟨g - 1 - gl, by omega⟩
            have hbl := ahead_blanks S (gaps d) _ j (g + 1) toks2 (hG d) hd
            rw [hgl] at hbl
            rw [hbl, aheadZ_step, if_pos (by omega), if_neg (by rw [← hA.head (by omega)]; exact hb), h1]
            simp only
            rw [if_pos trivial, n6 S (j + gl + n) g _ hd3 hA2 (by omega)]
            have en : (((i + n : Nat) : Int) - (i : Int)).toNat = n := by omega
            rw [en]
            simp
        · rw [if_neg h0] at he
          exact absurd he h0
    · rw [if_neg hp] at he ⊢
      refine ⟨[], by simp, by simp; omega, by simp [wideT]; omega, by simp, ?_, ?_⟩
      · rw [wideT]
        cases hff : fin with
        | nil => exact Or.inl rfl
        | cons c r =>
          rw [hff] at hF
          exact Or.inr ⟨c, r, rfl, hF c List.mem_cons_self⟩
      · intro S j g toks2 hd hj hg
        rw [wideT] at hd
        have hlen : S.size = j + fin.length := by
          have := congrArg List.length hd
          rw [List.length_drop, ← Lib.size_eq] at this
          omega
        obtain ⟨g, rfl⟩ : ∃ m, g = m + fin.length := ⟨g - fin.length, by omega⟩
        have hbl := ahead_blanks S fin [] j g toks2 hF (by rw [List.append_nil]; exact hd)
        rw [hbl, aheadZ_end _ _ _ _ (by omega)]
        simp [movedT]

end Go.Proofs.YtkfcoikfhpabmaaDoor.U

namespace Go.Proofs.YtkfcoikfhpabmaaDoor.U
open Go.RowKit Go.Proofs.YtkfcoikfhpabmaaDoorW.PrintWords
set_option linter.unusedSimpArgs false
set_option linter.unusedVariables false

/-- two texts are the same from two places on -/
structure SameRest (s S : ByteArray) (p q : Nat) : Prop where
  hp : p ≤ s.size
  hq : q ≤ S.size
  eq : s.data.toList.drop p = S.data.toList.drop q
theorem SameRest.size {s S : ByteArray} {p q : Nat} (h : SameRest s S p q) : s.size + q = S.size + p := by
  have := congrArg List.length h.eq
  rw [List.length_drop, List.length_drop, ← Lib.size_eq, ← Lib.size_eq] at this
  have := h.hp
  have := h.hq
  omega
theorem SameRest.sub {s S : ByteArray} {p q : Nat} (h : SameRest s S p q) (k : Nat) (hk : p + k ≤ s.size) : SameRest s S (p + k) (q + k) := by
  have hz := h.size
  refine ⟨hk, by omega, ?_⟩
  rw [← List.drop_drop, ← List.drop_drop, h.eq]
theorem SameRest.agree {s S : ByteArray} {p q : Nat} (h : SameRest s S p q) : Agree s S p q (s.size - p) := by
  have hz := h.size
  have hp := h.hp
  refine ⟨by omega, by omega, fun k hk => ?_⟩
  have e : (s.data.toList.drop p)[k]? = (S.data.toList.drop q)[k]? := by rw [h.eq]
  rw [List.getElem?_drop, List.getElem?_drop] at e
  rw [← getD_bt s (p + k) (by omega), ← getD_bt S (q + k) (by omega), List.getD_eq_getElem?_getD, List.getD_eq_getElem?_getD, e]
theorem SameRest.bt {s S : ByteArray} {p q : Nat} (h : SameRest s S p q) (hlt : p < s.size) : bt s (p : Int) = bt S (q : Int) := h.agree.head (by omega)
theorem SameRest.extract {s S : ByteArray} {p q : Nat} (h : SameRest s S p q) (m : Nat) (hm : p + m ≤ s.size) : s.extract p (p + m) = S.extract q (q + m) := h.agree.extract m (by omega)
theorem SameRest.all {s S : ByteArray} {p q : Nat} (h : SameRest s S p q) : s.extract p s.size = S.extract q S.size := by
  have hz := h.size
  have := h.extract (s.size - p) (by have := h.hp; omega)
  have hp := h.hp
  rw [show p + (s.size - p) = s.size by omega, show q + (s.size - p) = S.size by omega] at this
  exact this
theorem SameRest.decode {s S : ByteArray} {p q : Nat} (h : SameRest s S p q) : Utf8.decode s p = Utf8.decode S q := by
  rw [← Lib.decodeL_drop, ← Lib.decodeL_drop, h.eq]
theorem rest_run (P : Int → Bool) {s S : ByteArray} : ∀ (f p q : Nat), SameRest s S p q → runEnd P S f q + p = runEnd P s f p + q
  | 0, p, q, h => by
    show q + p = p + q
    omega
  | f + 1, p, q, h => by
    have hz := h.size
    rw [runEnd, runEnd]
    by_cases c : p < s.size
    · rw [if_pos c, if_pos (show q < S.size by omega), h.bt c]
      by_cases d : P (bt S (q : Int)) = true
      · rw [if_pos d, if_pos d]
        have := rest_run P f (p + 1) (q + 1) (h.sub 1 (by omega))
        omega
      · rw [if_neg d, if_neg d]
        omega
    · rw [if_neg c, if_neg (show ¬ q < S.size by omega)]
      omega
theorem rest_run' (P : Int → Bool) {s S : ByteArray} {p q : Nat} (h : SameRest s S p q) : runEnd P S (S.size - q) q + p = runEnd P s (s.size - p) p + q := by
  have hz := h.size
  have hp := h.hp
  rw [show S.size - q = s.size - p by omega]
  exact rest_run P _ p q h
theorem rest_unq {s S : ByteArray} : ∀ (f p : Nat) (acc : List UInt8) (q g : Nat), SameRest s S p q → s.size < p + f → S.size < q + g →
    (unq S g q acc).1 = (unq s f p acc).1 ∧ (unq S g q acc).2.1 + (p : Int) = (unq s f p acc).2.1 + (q : Int) ∧ (unq S g q acc).2.2 = (unq s f p acc).2.2
  | 0, p, acc, q, g, h, hf, hg => by
    have := h.hp
    omega
  | f + 1, p, acc, q, g, h, hf, hg => by
    have hz := h.size
    have hqq := h.hq
    obtain ⟨g, rfl⟩ : ∃ m, g = m + 1 := ⟨g - 1, by omega⟩
    rw [unq_step s, unq_step S, ← h.decode, ← h.all]
    by_cases c0 : p < s.size
    · rw [if_pos c0, if_pos (show q < S.size by omega)]
      by_cases c1 : (Utf8.decode s p).1 = 34
      · rw [if_pos c1, if_pos c1]
        simp only
        exact ⟨trivial, by omega, trivial⟩
      · rw [if_neg c1, if_neg c1]
        by_cases c2 : (Utf8.decode s p).1 < 32
        · rw [if_pos c2, if_pos c2]
          simp only
          exact ⟨trivial, by omega, trivial⟩
        · rw [if_neg c2, if_neg c2]
          by_cases c3 : (Utf8.decode s p).1 = 65533 ∧ (Utf8.decode s p).2 = 1
          · rw [if_pos c3, if_pos c3]
            simp only
            exact ⟨trivial, by omega, trivial⟩
          · rw [if_neg c3, if_neg c3]
            by_cases c4 : (Utf8.decode s p).1 = 92
            · rw [if_pos c4, if_pos c4]
              by_cases c5 : (escT (s.extract p s.size)).2.2 = 0
              · rw [if_pos c5, if_pos c5]
                have hr := escT_range _ c5
                rw [ByteArray.size_extract] at hr
                obtain ⟨m, hm⟩ : ∃ m, (escT (s.extract p s.size)).2.1.toNat = m := ⟨_, rfl⟩
                rw [hm]
                have ih := rest_unq f (p + m) (acc ++ Lib.encodeRune (escT (s.extract p s.size)).1) (q + m) g (h.sub m (by omega)) (by omega) (by omega)
                refine ⟨ih.1, by omega, ih.2.2⟩
              · rw [if_neg c5, if_neg c5]
                simp only
                exact ⟨trivial, by omega, trivial⟩
            · rw [if_neg c4, if_neg c4]
              have hw := Utf.at_width s p c0
              obtain ⟨m, hm⟩ : ∃ m, (Utf8.decode s p).2 = m := ⟨_, rfl⟩
              rw [hm] at hw ⊢
              have ih := rest_unq f (p + m) (acc ++ Lib.encodeRune ((Utf8.decode s p).1 : Int)) (q + m) g (h.sub m (by omega)) (by omega) (by omega)
              refine ⟨ih.1, by omega, ih.2.2⟩
    · rw [if_neg c0, if_neg (show ¬ q < S.size by omega)]
      simp only
      exact ⟨trivial, by omega, trivial⟩

theorem tok_rest {s S : ByteArray} {p q : Nat} (h : SameRest s S p q) (hp : p < s.size) :
    (tokR S q).e = (tokR s p).e ∧ (tokR S q).kind = (tokR s p).kind ∧ (tokR S q).text = (tokR s p).text ∧ (tokR S q).pos + p = (tokR s p).pos + q ∧ ((tokR s p).e ≠ 0 → (tokR S q).place + (p : Int) = (tokR s p).place + (q : Int)) := by
  have hz := h.size
  have hb := h.bt hp
  unfold tokR
  rw [← hb]
  by_cases c1 : markT (bt s (p : Int)) ≠ 0
  · rw [if_pos c1, if_pos c1]
    exact ⟨rfl, rfl, rfl, by simp only; omega, fun z => absurd rfl z⟩
  · rw [if_neg c1, if_neg c1]
    have ext : ∀ P, S.extract q (runEnd P S (S.size - q) q) = s.extract p (runEnd P s (s.size - p) p) := by
      intro P
      have hr := rest_run' P h
      have hbd := runEnd_bounds P s (s.size - p) p (by omega)
      have := h.extract (runEnd P s (s.size - p) p - p) (by omega)
      rw [show p + (runEnd P s (s.size - p) p - p) = runEnd P s (s.size - p) p by omega, show q + (runEnd P s (s.size - p) p - p) = runEnd P S (S.size - q) q by omega] at this
      exact this.symm
    by_cases c2 : letterT (bt s (p : Int)) = true
    · rw [if_pos c2, if_pos c2, ext wordT]
      have hr := rest_run' wordT h
      by_cases c3 : wordK (s.extract p (runEnd wordT s (s.size - p) p)) = 0
      · rw [if_pos c3, if_pos c3]
        exact ⟨rfl, rfl, rfl, by simp only; omega, fun _ => by simp only; omega⟩
      · rw [if_neg c3, if_neg c3]
        exact ⟨rfl, rfl, rfl, by simp only; omega, fun z => absurd rfl z⟩
    · rw [if_neg c2, if_neg c2]
      by_cases c4 : digitT (bt s (p : Int)) = true ∨ bt s (p : Int) = 45
      · rw [if_pos c4, if_pos c4, ext numT]
        have hr := rest_run' numT h
        by_cases c5 : formedB (numB (s.extract p (runEnd numT s (s.size - p) p))) = true
        · rw [if_pos c5, if_pos c5]
          exact ⟨rfl, rfl, rfl, by simp only; omega, fun z => absurd rfl z⟩
        · rw [if_neg c5, if_neg c5]
          exact ⟨rfl, rfl, rfl, by simp only; omega, fun _ => by simp only; omega⟩
      · rw [if_neg c4, if_neg c4]
        by_cases c6 : bt s (p : Int) = 34
        · rw [if_pos c6, if_pos c6, unqAt_at s p hp c6, unqAt_at S q (by omega) (by rw [← hb]; exact c6)]
          obtain ⟨u1, u2, u3⟩ := rest_unq s.size (p + 1) [] (q + 1) S.size (h.sub 1 (by omega)) (by omega) (by omega)
          rw [u1, u3]
          by_cases c7 : (unq s s.size (p + 1) []).2.2 = 0
          · rw [if_pos c7, if_pos c7]
            have hr := unq_range s s.size (p + 1) [] (by omega) c7
            exact ⟨rfl, rfl, rfl, by simp only; omega, fun z => absurd rfl z⟩
          · rw [if_neg c7, if_neg c7]
            exact ⟨rfl, rfl, rfl, by simp only; omega, fun _ => by simp only; omega⟩
        · rw [if_neg c6, if_neg c6]
          exact ⟨rfl, rfl, rfl, by simp only; omega, fun _ => by simp only; omega⟩

/-- tokens by so much further on -/
def shiftT (by_ : Int) (l : List Tok) : List Tok := l.map fun t => ⟨t.f0, t.f1 + by_, t.f2 + by_, t.f3⟩
theorem ahead_rest {s S : ByteArray} : ∀ (f p : Nat) (toks toks2 : List Tok) (q g : Nat), SameRest s S p q → s.size < p + f → S.size < q + g →
    ∃ new, (aheadZ s f p toks).1 = toks ++ new ∧ (aheadZ S g q toks2).1 = toks2 ++ shiftT ((q : Int) - p) new ∧ (aheadZ S g q toks2).2.1 = (aheadZ s f p toks).2.1
  | 0, p, toks, toks2, q, g, h, hf, hg => by
    have := h.hp
    omega
  | f + 1, p, toks, toks2, q, g, h, hf, hg => by
    have hz := h.size
    have hqq := h.hq
    obtain ⟨g, rfl⟩ : ∃ m, g = m + 1 := ⟨g - 1, by omega⟩
    rw [aheadZ_step s, aheadZ_step S]
    by_cases c0 : p < s.size
    · rw [if_pos c0, if_pos (show q < S.size by omega), ← h.bt c0]
      by_cases c1 : blankT (bt s (p : Int)) = true
      · rw [if_pos c1, if_pos c1]
        obtain ⟨new, n1, n2, n3⟩ := ahead_rest f (p + 1) toks toks2 (q + 1) g (h.sub 1 (by omega)) (by omega) (by omega)
        exact ⟨new, n1, by rw [n2]; congr 2; omega, n3⟩
      · rw [if_neg c1, if_neg c1]
        obtain ⟨t1, t2, t3, t4, t5⟩ := tok_rest h c0
        rw [t1, t2, t3]
        by_cases c2 : (tokR s p).e = 0
        · rw [if_pos c2, if_pos c2]
          have hr := tokR_range s p c0 c2
          obtain ⟨m, hm⟩ : ∃ m, (tokR s p).pos = p + m := ⟨(tokR s p).pos - p, by omega⟩
          have hm2 : (tokR S q).pos = q + m := by omega
          rw [hm, hm2]
          obtain ⟨new, n1, n2, n3⟩ := ahead_rest f (p + m) (toks ++ [⟨(tokR s p).kind, p, ((p + m : Nat) : Int), (tokR s p).text⟩]) (toks2 ++ [⟨(tokR s p).kind, q, ((q + m : Nat) : Int), (tokR s p).text⟩]) (q + m) g (h.sub m (by omega)) (by omega) (by omega)
          refine ⟨⟨(tokR s p).kind, p, ((p + m : Nat) : Int), (tokR s p).text⟩ :: new, by rw [n1]; simp, ?_, n3⟩
          have e3 : ((q + m : Nat) : Int) - ((p + m : Nat) : Int) = (q : Int) - p := by omega
          have e4 : (⟨(tokR s p).kind, (p : Int) + ((q : Int) - p), ((p + m : Nat) : Int) + ((q : Int) - p), (tokR s p).text⟩ : Tok) = ⟨(tokR s p).kind, q, ((q + m : Nat) : Int), (tokR s p).text⟩ := by
            rw [show (p : Int) + ((q : Int) - p) = q by omega, show ((p + m : Nat) : Int) + ((q : Int) - p) = ((q + m : Nat) : Int) by omega]
          rw [n2, e3]
          unfold shiftT
          simp only [List.map_cons, List.append_assoc, List.singleton_append, e4]
        · rw [if_neg c2, if_neg c2]
          exact ⟨[], by simp, by simp [shiftT], rfl⟩
    · rw [if_neg c0, if_neg (show ¬ q < S.size by omega)]
      exact ⟨[], by simp, by simp [shiftT], rfl⟩

end Go.Proofs.YtkfcoikfhpabmaaDoor.U
