/- The law WordGaps walked: blanks, and a remark, put in ahead of tokens move places alone. -/
import Derived.Test.YtccabnimiacioaaDoorUtf
import Derived.Test.YtccabnimiacioaaDoorEScan
import Derived.Test.YtccabnimiacioaaDoorUL3x1
import Derived.Test.YtccabnimiacioaaDoorUL0x2
import Derived.Test.YtccabnimiacioaaDoorPWordKnown
import Derived.Test.YtccabnimiacioaaDoorENumbered
import Derived.Deep.LoopGhost
import Derived.BigQuiet
import Derived.Deep.QuietTactic
import Derived.Lib.Hide
import Derived.Outline
namespace Go.Proofs.YtccabnimiacioaaDoor.Utf
open Go Go.Lib
set_option linter.unusedSimpArgs false

theorem decodeN_1 (n b0 b1 b2 b3 : Nat) (h : b0 < 128) : decodeN n b0 b1 b2 b3 = (b0, 1) := by
  unfold decodeN
  rw [if_pos h]
theorem decodeN_2 (n b0 b1 b2 b3 : Nat) (h0 : b0 / 32 = 6) (h1 : 1 < n) (h2 : b1 / 64 = 2) (h3 : 128 ≤ b0 % 32 * 64 + b1 % 64) : decodeN n b0 b1 b2 b3 = (b0 % 32 * 64 + b1 % 64, 2) := by
  unfold decodeN
  rw [if_neg (by omega), if_pos ⟨h0, h1, h2⟩, if_pos h3]
theorem decodeN_3 (n b0 b1 b2 b3 : Nat) (h0 : b0 / 16 = 14) (h1 : 2 < n) (h2 : b1 / 64 = 2) (h3 : b2 / 64 = 2) (h4 : 2048 ≤ b0 % 16 * 4096 + b1 % 64 * 64 + b2 % 64)
    (h5 : b0 % 16 * 4096 + b1 % 64 * 64 + b2 % 64 < 55296 ∨ 57344 ≤ b0 % 16 * 4096 + b1 % 64 * 64 + b2 % 64) : decodeN n b0 b1 b2 b3 = (b0 % 16 * 4096 + b1 % 64 * 64 + b2 % 64, 3) := by
  unfold decodeN
  rw [if_neg (by omega), if_neg (by omega), if_pos ⟨h0, ⟨by omega, h2⟩, h1, h3⟩, if_pos ⟨h4, by omega⟩]
theorem decodeN_4 (n b0 b1 b2 b3 : Nat) (h0 : b0 / 8 = 30) (h1 : 3 < n) (h2 : b1 / 64 = 2) (h3 : b2 / 64 = 2) (h4 : b3 / 64 = 2) (h5 : 65536 ≤ b0 % 8 * 262144 + b1 % 64 * 4096 + b2 % 64 * 64 + b3 % 64)
    (h6 : b0 % 8 * 262144 + b1 % 64 * 4096 + b2 % 64 * 64 + b3 % 64 ≤ 1114111) : decodeN n b0 b1 b2 b3 = (b0 % 8 * 262144 + b1 % 64 * 4096 + b2 % 64 * 64 + b3 % 64, 4) := by
  unfold decodeN
  rw [if_neg (by omega), if_neg (by omega), if_neg (by omega), if_pos (by omega), if_pos (by omega)]

/-- what is read of the first bytes hangs on no later ones -/
theorem decodeN_less (n N b0 b1 b2 b3 c1 c2 c3 : Nat) (hn : n ≤ N) (e1 : 1 < n → c1 = b1) (e2 : 2 < n → c2 = b2) (e3 : 3 < n → c3 = b3) (hw : (decodeN N b0 b1 b2 b3).2 ≤ n) :
    decodeN n b0 c1 c2 c3 = decodeN N b0 b1 b2 b3 := by
  rcases decodeN_shape N b0 b1 b2 b3 with ⟨a0, e⟩ | ⟨a0, a1, a2, a3, e⟩ | ⟨a0, a1, a2, a3, a4, a5, e⟩ | ⟨a0, a1, a2, a3, a4, a5, a6, e⟩ | e
  · rw [e, decodeN_1 _ _ _ _ _ a0]
  · rw [e] at hw ⊢
    simp only at hw
    obtain rfl := e1 (by omega)
    exact decodeN_2 _ _ _ _ _ a0 (by omega) a2 a3
  · rw [e] at hw ⊢
    simp only at hw
    obtain rfl := e1 (by omega)
    obtain rfl := e2 (by omega)
    exact decodeN_3 _ _ _ _ _ a0 (by omega) a2 a3 a4 a5
  · rw [e] at hw ⊢
    simp only at hw
    obtain rfl := e1 (by omega)
    obtain rfl := e2 (by omega)
    obtain rfl := e3 (by omega)
    exact decodeN_4 _ _ _ _ _ a0 (by omega) a2 a3 a4 a5 a6
  · rw [e]
    rcases decodeN_shape n b0 c1 c2 c3 with ⟨a0, g⟩ | ⟨a0, a1, a2, a3, g⟩ | ⟨a0, a1, a2, a3, a4, a5, g⟩ | ⟨a0, a1, a2, a3, a4, a5, a6, g⟩ | g
    · rw [decodeN_1 _ _ _ _ _ a0] at e ⊢
      exact e
    · obtain rfl := e1 (by omega)
      rw [decodeN_2 N _ _ _ _ a0 (by omega) a2 a3] at e
      simp at e
    · obtain rfl := e1 (by omega)
      obtain rfl := e2 (by omega)
      rw [decodeN_3 N _ _ _ _ a0 (by omega) a2 a3 a4 a5] at e
      simp at e
    · obtain rfl := e1 (by omega)
      obtain rfl := e2 (by omega)
      obtain rfl := e3 (by omega)
      rw [decodeN_4 N _ _ _ _ a0 (by omega) a2 a3 a4 a5 a6] at e
      simp at e
    · exact g

theorem getD_take (l : List UInt8) (m k : Nat) (h : k < m) : (l.take m).getD k 0 = l.getD k 0 := by
  simp [List.getD, List.getElem?_take, h]
theorem decodeL_take (l : List UInt8) (m : Nat) (hl : l ≠ []) (h : (decodeL l).2 ≤ m) : decodeL (l.take m) = decodeL l := by
  have h1 := width_pos l hl
  have h2 := decodeL_le l hl
  rw [decodeL_N l] at h h1 h2 ⊢
  rw [decodeL_N]
  have h0 : (l.take m).getD 0 0 = l.getD 0 0 := getD_take l m 0 (by omega)
  rw [h0, List.length_take]
  refine decodeN_less _ _ _ _ _ _ _ _ _ (by omega) (fun g => ?_) (fun g => ?_) (fun g => ?_) (by omega)
  · rw [getD_take l m 1 (by omega)]
  · rw [getD_take l m 2 (by omega)]
  · rw [getD_take l m 3 (by omega)]

/-- the pieces ahead of a place -/
theorem pcs_take : ∀ (n : Nat) (l : List UInt8), pcs (l.take (plc n l)) = (pcs l).take n
  | 0, l => by
    unfold plc
    rw [List.take_zero, List.take_zero]
    rfl
  | n + 1, l => by
    by_cases hl : l = []
    · subst hl
      simp [pcs_nil]
    · have hw := width_pos l hl
      have hle := decodeL_le l hl
      have e : plc (n + 1) l = (decodeL l).2 + plc n (l.drop (decodeL l).2) := by
        conv => lhs; unfold plc
        rw [if_neg hl]
      have hd := decodeL_take l ((decodeL l).2 + plc n (l.drop (decodeL l).2)) hl (by omega)
      have hne : l.take ((decodeL l).2 + plc n (l.drop (decodeL l).2)) ≠ [] := by
        intro g
        have := congrArg List.length g
        rw [List.length_take, List.length_nil] at this
        omega
      rw [e, pcs_step _ hne, hd, pcs_step l hl, List.take_succ_cons, List.drop_take, show (decodeL l).2 + plc n (l.drop (decodeL l).2) - (decodeL l).2 = plc n (l.drop (decodeL l).2) by omega, pcs_take n]

theorem plc_add : ∀ (i k : Nat) (l : List UInt8), plc (i + k) l = plc i l + plc k (l.drop (plc i l))
  | 0, k, l => by
    rw [Nat.zero_add]
    show plc k l = 0 + plc k (l.drop 0)
    rw [Nat.zero_add, List.drop_zero]
  | i + 1, k, l => by
    by_cases hl : l = []
    · subst hl
      have z : ∀ n, plc n [] = 0 := fun n => by cases n <;> simp [plc]
      simp [z]
    · have e : ∀ m, plc (m + 1) l = (decodeL l).2 + plc m (l.drop (decodeL l).2) := by
        intro m
        conv => lhs; unfold plc
        rw [if_neg hl]
      rw [show i + 1 + k = i + k + 1 by omega, e, e, plc_add i k, List.drop_drop]
      omega

/-- how many pieces a text has that is cut from one number to another -/
theorem pcs_cut (i j : Nat) (l : List UInt8) (hij : i ≤ j) : pcs ((l.drop (plc i l)).take (plc j l - plc i l)) = ((pcs l).drop i).take (j - i) := by
  obtain ⟨k, rfl⟩ : ∃ k, j = i + k := ⟨j - i, by omega⟩
  rw [plc_add, show plc i l + plc k (l.drop (plc i l)) - plc i l = plc k (l.drop (plc i l)) by omega, pcs_take, pcs_drop, show i + k - i = k by omega]

end Go.Proofs.YtccabnimiacioaaDoor.Utf

namespace Go.Proofs.YtccabnimiacioaaDoor.U
open Go.RowKit Go.Proofs.YtccabnimiacioaaDoorW.PrintWords
set_option linter.unusedSimpArgs false
set_option linter.unusedVariables false

/-- two texts have the same bytes from two places on -/
def Agree (s S : ByteArray) (i j n : Nat) : Prop := i + n ≤ s.size ∧ j + n ≤ S.size ∧ ∀ k, k < n → bt s ((i + k : Nat) : Int) = bt S ((j + k : Nat) : Int)
theorem Agree.sub {s S : ByteArray} {i j n : Nat} (h : Agree s S i j n) (k m : Nat) (hk : k + m ≤ n) : Agree s S (i + k) (j + k) m := by
  obtain ⟨h1, h2, h3⟩ := h
  refine ⟨by omega, by omega, fun q hq => ?_⟩
  have := h3 (k + q) (by omega)
  rw [show i + k + q = i + (k + q) by omega, show j + k + q = j + (k + q) by omega]
  exact this
theorem Agree.head {s S : ByteArray} {i j n : Nat} (h : Agree s S i j n) (hn : 0 < n) : bt s (i : Int) = bt S (j : Int) := h.2.2 0 hn
theorem Agree.at {s S : ByteArray} {i j n : Nat} (h : Agree s S i j n) (k : Nat) (hk : k < n) : bt s ((i + k : Nat) : Int) = bt S ((j + k : Nat) : Int) := h.2.2 k hk

theorem byte_eq (s S : ByteArray) (i j : Nat) (hi : i < s.size) (hj : j < S.size) (h : bt s (i : Int) = bt S (j : Int)) : s.data.toList[i]? = S.data.toList[j]? := by
  have h1 : i < s.data.toList.length := by rw [← Lib.size_eq]; exact hi
  have h2 : j < S.data.toList.length := by rw [← Lib.size_eq]; exact hj
  rw [← getD_bt s i hi, ← getD_bt S j hj, List.getD_eq_getElem?_getD, List.getD_eq_getElem?_getD, List.getElem?_eq_getElem h1, List.getElem?_eq_getElem h2] at h
  rw [List.getElem?_eq_getElem h1, List.getElem?_eq_getElem h2]
  simp only [Option.getD_some] at h
  congr 1
  apply UInt8.toNat_inj.1
  omega
theorem Agree.take {s S : ByteArray} {i j n : Nat} (h : Agree s S i j n) : (s.data.toList.drop i).take n = (S.data.toList.drop j).take n := by
  obtain ⟨h1, h2, h3⟩ := h
  apply List.ext_getElem?
  intro k
  by_cases hk : k < n
  · rw [List.getElem?_take_of_lt hk, List.getElem?_take_of_lt hk, List.getElem?_drop, List.getElem?_drop]
    exact byte_eq s S (i + k) (j + k) (by omega) (by omega) (h3 k hk)
  · rw [List.getElem?_eq_none (by rw [List.length_take]; omega), List.getElem?_eq_none (by rw [List.length_take]; omega)]
theorem Agree.extract {s S : ByteArray} {i j n : Nat} (h : Agree s S i j n) (m : Nat) (hm : m ≤ n) : s.extract i (i + m) = S.extract j (j + m) := by
  apply ByteArray.ext
  apply Array.ext'
  have := (h.sub 0 m (by omega)).take
  rw [Lib.extract_data, Lib.extract_data, show i + m - i = m by omega, show j + m - j = m by omega]
  exact this

/-! runs -/
theorem runEnd_unique (p : Int → Bool) (s : ByteArray) : ∀ (f i e : Nat), i ≤ e → e ≤ s.size → s.size - i ≤ f → (∀ k, i ≤ k → k < e → p (bt s (k : Int)) = true) → (e < s.size → p (bt s (e : Int)) = false) → runEnd p s f i = e
  | 0, i, e, h1, h2, h3, h4, h5 => by
    show i = e
    omega
  | f + 1, i, e, h1, h2, h3, h4, h5 => by
    rw [runEnd]
    by_cases hi : i < s.size
    · rw [if_pos hi]
      by_cases he : i = e
      · subst he
        rw [h5 hi, if_neg (by decide)]
      · rw [h4 i (Nat.le_refl _) (by omega), if_pos rfl]
        exact runEnd_unique p s f (i + 1) e (by omega) h2 (by omega) (fun k a b => h4 k (by omega) b) h5
    · rw [if_neg hi]
      omega
theorem runEnd_spec (p : Int → Bool) (s : ByteArray) : ∀ (f i : Nat), i ≤ s.size → s.size - i ≤ f → (∀ k, i ≤ k → k < runEnd p s f i → p (bt s (k : Int)) = true) ∧ (runEnd p s f i < s.size → p (bt s (runEnd p s f i : Nat)) = false)
  | 0, i, h1, h2 => by
    have e : runEnd p s 0 i = i := rfl
    rw [e]
    exact ⟨fun k a b => by omega, fun h => by omega⟩
  | f + 1, i, h1, h2 => by
    rw [runEnd]
    by_cases hi : i < s.size
    · rw [if_pos hi]
      cases hp : p (bt s (i : Int))
      · rw [if_neg (by decide)]
        exact ⟨fun k a b => by omega, fun _ => hp⟩
      · rw [if_pos rfl]
        have ih := runEnd_spec p s f (i + 1) (by omega) (by omega)
        refine ⟨fun k a b => ?_, ih.2⟩
        by_cases hk : k = i
        · subst hk
          exact hp
        · exact ih.1 k (by omega) b
    · rw [if_neg hi]
      exact ⟨fun k a b => by omega, fun h => by omega⟩
theorem run_local (p : Int → Bool) (s S : ByteArray) (i j n : Nat) (h : Agree s S i j n) (hr : runEnd p s (s.size - i) i = i + n) (hstop : j + n < S.size → p (bt S ((j + n : Nat) : Int)) = false) : runEnd p S (S.size - j) j = j + n := by
  have h1 := h.1
  have h2 := h.2.1
  have hs := runEnd_spec p s (s.size - i) i (by omega) (Nat.le_refl _)
  rw [hr] at hs
  refine runEnd_unique p S _ j (j + n) (by omega) h2 (Nat.le_refl _) (fun k a b => ?_) hstop
  have := h.at (k - j) (by omega)
  rw [show j + (k - j) = k by omega] at this
  rw [← this]
  exact hs.1 (i + (k - j)) (by omega) (by omega)

/-! escapes and runes -/
theorem num_local (t T : ByteArray) (h : ∀ k, k < 6 → bt t (k : Nat) = bt T (k : Nat)) (ht : 6 ≤ t.size) (hT : 6 ≤ T.size) : numberedZ T = numberedZ t := by
  have e0 : bt t 0 = bt T 0 := h 0 (by omega)
  have e1 : bt t 1 = bt T 1 := h 1 (by omega)
  have e2 : bt t 2 = bt T 2 := h 2 (by omega)
  have e3 : bt t 3 = bt T 3 := h 3 (by omega)
  have e4 : bt t 4 = bt T 4 := h 4 (by omega)
  have e5 : bt t 5 = bt T 5 := h 5 (by omega)
  have ea : accZ T 4 = accZ t 4 := by
    show accZ T 3 * 16 + digitZ (bt T ((2 + 3 : Nat) : Int)) = accZ t 3 * 16 + digitZ (bt t ((2 + 3 : Nat) : Int))
    show ((((0 * 16 + digitZ (bt T ((2 + 0 : Nat) : Int))) * 16 + digitZ (bt T ((2 + 1 : Nat) : Int))) * 16 + digitZ (bt T ((2 + 2 : Nat) : Int))) * 16 + digitZ (bt T ((2 + 3 : Nat) : Int))) = ((((0 * 16 + digitZ (bt t ((2 + 0 : Nat) : Int))) * 16 + digitZ (bt t ((2 + 1 : Nat) : Int))) * 16 + digitZ (bt t ((2 + 2 : Nat) : Int))) * 16 + digitZ (bt t ((2 + 3 : Nat) : Int)))
    rw [h (2 + 0) (by omega), h (2 + 1) (by omega), h (2 + 2) (by omega), h (2 + 3) (by omega)]
  have en : numZ T = numZ t := by
    unfold numZ
    rw [e2, e3, e4, e5, ea]
  unfold numberedZ
  rw [e0, e1, en]
  by_cases c : bt T 0 = 92 ∧ bt T 1 = 117
  · rw [if_pos ⟨hT, c⟩, if_pos ⟨ht, c⟩]
  · rw [if_neg (fun g => c g.2), if_neg (fun g => c g.2)]
theorem bt_ext (s : ByteArray) (p j : Nat) (h : p + j < s.size) : bt (s.extract p s.size) (j : Int) = bt s ((p + j : Nat) : Int) := by
  have hl : j < (s.extract p s.size).size := by rw [ByteArray.size_extract]; omega
  have hd : (s.extract p s.size).data.toList = s.data.toList.drop p := by rw [Lib.extract_data, List.take_of_length_le (by rw [List.length_drop, ← Lib.size_eq]; omega)]
  rw [← getD_bt s (p + j) h, ← getD_bt (s.extract p s.size) j hl, hd]
  simp [List.getD_eq_getElem?_getD, List.getElem?_drop]
theorem esc_local (t T : ByteArray) (n : Nat) (h : ∀ k, k < n → bt t (k : Nat) = bt T (k : Nat)) (hn : n ≤ t.size) (hN : n ≤ T.size) (he : (escT t).2.2 = 0) (hc : (escT t).2.1 ≤ n) : escT T = escT t := by
  have hr := escT_range t he
  have b0 : bt t 0 = bt T 0 := h 0 (by omega)
  have b1 : bt t 1 = bt T 1 := h 1 (by omega)
  unfold escT escV at he hc ⊢
  by_cases g : numberedZ t < 0
  · rw [if_pos g] at he hc ⊢
    by_cases g2 : 2 ≤ t.size ∧ bt t 0 = 92 ∧ 0 ≤ shortZ (bt t 1)
    · rw [if_pos g2] at he hc ⊢
      have h117 : bt t 1 ≠ 117 := by
        intro e
        rw [e] at g2
        have := g2.2.2
        revert this
        decide
      have hT : numberedZ T = -1 := by
        unfold numberedZ
        rw [if_neg (by rw [← b1]; exact fun g => h117 g.2.2)]
      simp only at hc
      rw [hT, if_pos (by decide), if_pos (by rw [← b0, ← b1]; exact ⟨by omega, g2.2⟩), b1]
    · rw [if_neg g2] at he
      simp at he
  · rw [if_neg g] at he hc ⊢
    have h6 := (numberedZ_range t).2.2 (by omega)
    by_cases g1 : 56320 ≤ numberedZ t ∧ numberedZ t ≤ 57343
    · rw [if_pos g1] at he
      simp at he
    · rw [if_neg g1] at he hc ⊢
      by_cases g3 : ¬ (55296 ≤ numberedZ t ∧ numberedZ t ≤ 56319)
      · rw [if_pos g3] at he hc ⊢
        simp only at hc
        have e := num_local t T (fun k hk => h k (by omega)) h6 (by omega)
        rw [e, if_neg g, if_neg g1, if_pos g3]
      · rw [if_neg g3] at he hc ⊢
        by_cases g4 : 56320 ≤ numberedZ (t.extract 6 t.size) ∧ numberedZ (t.extract 6 t.size) ≤ 57343
        · rw [if_pos g4] at he hc ⊢
          simp only at hc
          have e := num_local t T (fun k hk => h k (by omega)) h6 (by omega)
          have h12 := (numberedZ_range (t.extract 6 t.size)).2.2 (by omega)
          have e2 := num_local (t.extract 6 t.size) (T.extract 6 T.size) (fun k hk => by rw [bt_ext t 6 k (by omega), bt_ext T 6 k (by omega)]; exact h (6 + k) (by omega)) h12 (by rw [ByteArray.size_extract]; omega)
          rw [e, e2, if_neg g, if_neg g1, if_neg g3, if_pos g4]
        · rw [if_neg g4] at he
          simp at he
theorem decodeN_more (n N b0 b1 b2 b3 c1 c2 c3 : Nat) (hn : n ≤ N) (e1 : 1 < n → c1 = b1) (e2 : 2 < n → c2 = b2) (e3 : 3 < n → c3 = b3) (hw : ¬ ((Lib.decodeN n b0 c1 c2 c3).1 = 65533 ∧ (Lib.decodeN n b0 c1 c2 c3).2 = 1)) :
    Lib.decodeN N b0 b1 b2 b3 = Lib.decodeN n b0 c1 c2 c3 := by
  rcases Lib.decodeN_shape n b0 c1 c2 c3 with ⟨a0, e⟩ | ⟨a0, a1, a2, a3, e⟩ | ⟨a0, a1, a2, a3, a4, a5, e⟩ | ⟨a0, a1, a2, a3, a4, a5, a6, e⟩ | e
  · rw [e, Utf.decodeN_1 _ _ _ _ _ a0]
  · obtain rfl := e1 (by omega)
    rw [e]
    exact Utf.decodeN_2 _ _ _ _ _ a0 (by omega) a2 a3
  · obtain rfl := e1 (by omega)
    obtain rfl := e2 (by omega)
    rw [e]
    exact Utf.decodeN_3 _ _ _ _ _ a0 (by omega) a2 a3 a4 a5
  · obtain rfl := e1 (by omega)
    obtain rfl := e2 (by omega)
    obtain rfl := e3 (by omega)
    rw [e]
    exact Utf.decodeN_4 _ _ _ _ _ a0 (by omega) a2 a3 a4 a5 a6
  · rw [e] at hw
    simp at hw
theorem decode_local (s S : ByteArray) (p q n : Nat) (h : Agree s S p q n) (hn : 0 < n) (hw : (Utf8.decode s p).2 ≤ n) (hne : ¬ ((Utf8.decode s p).1 = 65533 ∧ (Utf8.decode s p).2 = 1)) : Utf8.decode S q = Utf8.decode s p := by
  have h1 := h.1
  have h2 := h.2.1
  have ht := h.take
  rw [← Lib.decodeL_drop] at hw hne ⊢
  rw [← Lib.decodeL_drop]
  have l1 : s.data.toList.drop p ≠ [] := Utf.drop_ne s p (by omega)
  have l2 : S.data.toList.drop q ≠ [] := Utf.drop_ne S q (by omega)
  have e := Utf.decodeL_take _ n l1 hw
  rw [ht] at e
  rw [← e] at hne ⊢
  have len : (S.data.toList.drop q).length = S.size - q := by rw [List.length_drop, ← Lib.size_eq]
  generalize S.data.toList.drop q = l at *
  rw [Lib.decodeL_N (l.take n)] at hne ⊢
  rw [Lib.decodeL_N l]
  have h0 : (l.take n).getD 0 0 = l.getD 0 0 := Utf.getD_take l n 0 (by omega)
  rw [h0, List.length_take] at hne ⊢
  refine decodeN_more _ _ _ _ _ _ _ _ _ (by omega) (fun g => ?_) (fun g => ?_) (fun g => ?_) hne
  · rw [Utf.getD_take l n 1 (by omega)]
  · rw [Utf.getD_take l n 2 (by omega)]
  · rw [Utf.getD_take l n 3 (by omega)]

/-! pieces of texts -/
theorem pieceZ_step (s : ByteArray) (f i : Nat) (acc : List UInt8) : pieceZ s (f + 1) i acc =
    (if i < s.size then
      if bt s (i : Int) = 34 then (0, i + 1, true, acc)
      else if bt s (i : Int) = 92 ∧ (i + 1 < s.size ∧ bt s ((i + 1 : Nat) : Int) = 40) then (0, i + 2, false, acc)
      else if bt s (i : Int) = 92 then
        if (escT (s.extract i s.size)).2.2 = 0 then pieceZ s f (i + (escT (s.extract i s.size)).2.1.toNat) (acc ++ Lib.encodeRune (escT (s.extract i s.size)).1)
        else ((escT (s.extract i s.size)).2.2, i, false, [])
      else if bt s (i : Int) < 32 then (22, i, false, [])
      else if (Utf8.decode s i).1 = 65533 ∧ (Utf8.decode s i).2 = 1 then (20, i, false, [])
      else pieceZ s f (i + (Utf8.decode s i).2) (acc ++ Lib.encodeRune ((Utf8.decode s i).1 : Int))
    else (21, s.size, false, [])) := by rw [pieceZ]
theorem piece_local (s S : ByteArray) (hs : s.size ≤ 1073741824) : ∀ (f p : Nat) (acc : List UInt8) (q g n : Nat), (pieceZ s f p acc).1 = 0 → Agree s S p q n → (pieceZ s f p acc).2.1 = p + n → S.size < q + g →
    pieceZ S g q acc = (0, q + n, (pieceZ s f p acc).2.2.1, (pieceZ s f p acc).2.2.2)
  | 0, p, acc, q, g, n, h0, hA, hp, hg => by
    unfold pieceZ at h0
    simp at h0
  | f + 1, p, acc, q, g, n, h0, hA, hp, hg => by
    have hA1 := hA.1
    have hA2 := hA.2.1
    obtain ⟨g, rfl⟩ : ∃ m, g = m + 1 := ⟨g - 1, by omega⟩
    rw [pieceZ_step] at h0 hp ⊢
    rw [pieceZ_step s]
    by_cases c0 : p < s.size
    · rw [if_pos c0] at h0 hp ⊢
      by_cases c1 : bt s (p : Int) = 34
      · rw [if_pos c1] at hp ⊢
        simp only at hp
        rw [if_pos (by omega), ← hA.head (by omega), if_pos c1]
        show _ = ((0 : Int), q + n, true, acc)
        rw [show n = 1 by omega]
      · rw [if_neg c1] at h0 hp ⊢
        by_cases c2 : bt s (p : Int) = 92 ∧ (p + 1 < s.size ∧ bt s ((p + 1 : Nat) : Int) = 40)
        · rw [if_pos c2] at hp ⊢
          simp only at hp
          have hn : n = 2 := by omega
          subst hn
          rw [if_pos (by omega), ← hA.head (by omega), if_neg c1, ← hA.at 1 (by omega), if_pos ⟨c2.1, by omega, c2.2.2⟩]
        · rw [if_neg c2] at h0 hp ⊢
          by_cases c3 : bt s (p : Int) = 92
          · rw [if_pos c3] at h0 hp ⊢
            by_cases c4 : (escT (s.extract p s.size)).2.2 = 0
            · rw [if_pos c4] at h0 hp ⊢
              have hr := escT_range _ c4
              have hsz : (s.extract p s.size).size = s.size - p := by rw [ByteArray.size_extract]; omega
              have hSz : (S.extract q S.size).size = S.size - q := by rw [ByteArray.size_extract]; omega
              rw [hsz] at hr
              have hrg := pieceZ_range s hs f _ _ (by omega) h0
              rw [hp] at hrg
              have he : escT (S.extract q S.size) = escT (s.extract p s.size) := by
                refine esc_local _ _ n (fun k hk => ?_) (by omega) (by omega) c4 (by omega)
                rw [bt_ext s p k (by omega), bt_ext S q k (by omega)]
                exact hA.at k hk
              obtain ⟨m, hm⟩ : ∃ m, (escT (s.extract p s.size)).2.1.toNat = m := ⟨_, rfl⟩
              have hb1 := hA.at 1 (by omega)
              have c2' : ¬ (bt s (p : Int) = 92 ∧ (q + 1 < S.size ∧ bt S ((q + 1 : Nat) : Int) = 40)) := by
                rintro ⟨_, _, z⟩
                rw [← hb1] at z
                exact c2 ⟨c3, by omega, z⟩
              rw [if_pos (by omega), ← hA.head (by omega), if_neg c1, if_neg c2', if_pos c3, he, if_pos c4]
              rw [hm] at h0 hp hrg ⊢
              have hmm : 2 ≤ m := by omega
              have ih := piece_local s S hs f (p + m) _ (q + m) g (n - m) h0 (hA.sub m (n - m) (by omega)) (by rw [hp]; omega) (by omega)
              rw [ih, show q + m + (n - m) = q + n by omega]
            · rw [if_neg c4] at h0
              exact absurd h0 c4
          · rw [if_neg c3] at h0 hp ⊢
            by_cases c4 : bt s (p : Int) < 32
            · rw [if_pos c4] at h0
              simp at h0
            · rw [if_neg c4] at h0 hp ⊢
              by_cases c5 : (Utf8.decode s p).1 = 65533 ∧ (Utf8.decode s p).2 = 1
              · rw [if_pos c5] at h0
                simp at h0
              · rw [if_neg c5] at h0 hp ⊢
                have hw := Utf.at_width s p c0
                have hrg := pieceZ_range s hs f _ _ hw.2 h0
                rw [hp] at hrg
                have hd := decode_local s S p q n hA (by omega) (by omega) c5
                rw [if_pos (by omega), ← hA.head (by omega), if_neg c1, if_neg (fun z => c3 z.1), if_neg c3, if_neg c4, hd, if_neg c5]
                obtain ⟨m, hm⟩ : ∃ m, (Utf8.decode s p).2 = m := ⟨_, rfl⟩
                rw [hm] at h0 hp hrg hw ⊢
                have ih := piece_local s S hs f (p + m) _ (q + m) g (n - m) h0 (hA.sub m (n - m) (by omega)) (by rw [hp]; omega) (by omega)
                rw [ih, show q + m + (n - m) = q + n by omega]
    · rw [if_neg c0] at h0
      simp at h0

end Go.Proofs.YtccabnimiacioaaDoor.U

namespace Go.Proofs.YtccabnimiacioaaDoor.U
open Go.RowKit Go.Proofs.YtccabnimiacioaaDoorW.PrintWords
set_option linter.unusedSimpArgs false
set_option linter.unusedVariables false

/-- bytes that go on with no token -/
def Stop (c : Int) : Prop := c = 32 ∨ c = 9 ∨ c = 10 ∨ c = 13 ∨ c = 35 ∨ c = 41
theorem Stop.name {c : Int} (h : Stop c) : inNameB c = false := by
  rcases h with rfl | rfl | rfl | rfl | rfl | rfl <;> decide
theorem Stop.numeral {c : Int} (h : Stop c) : numeralB c = false := by
  rcases h with rfl | rfl | rfl | rfl | rfl | rfl <;> decide
theorem Stop.letter {c : Int} (h : Stop c) : letterB c = false := by
  rcases h with rfl | rfl | rfl | rfl | rfl | rfl <;> decide

theorem index_mem : ∀ (l : List UInt8) (c : UInt8), 0 ≤ Lib.indexByte l c → c ∈ l
  | [], c, h => by
    unfold Lib.indexByte at h
    omega
  | b :: l, c, h => by
    unfold Lib.indexByte at h
    by_cases e : b = c
    · subst e
      exact List.mem_cons_self
    · rw [if_neg (by simpa using e)] at h
      by_cases g : (Lib.indexByte l c == -1) = true
      · rw [if_pos g] at h
        omega
      · rw [if_neg g] at h
        refine List.mem_cons_of_mem _ (index_mem l c ?_)
        have : Lib.indexByte l c ≠ -1 := by simpa using g
        have hm := index_low l c
        omega
where index_low : ∀ (l : List UInt8) (c : UInt8), -1 ≤ Lib.indexByte l c
  | [], c => by
    unfold Lib.indexByte
    omega
  | b :: l, c => by
    have := index_low l c
    unfold Lib.indexByte
    split
    · omega
    · split
      · omega
      · omega

theorem bt_range (s : ByteArray) (i : Int) : 0 ≤ bt s i ∧ bt s i < 256 := by
  unfold bt
  split
  · have := UInt8.toNat_lt (s[i.toNat])
    omega
  · omega

/-- a mark's byte and a byte that stops are no mark of two -/
theorem no_two : ∀ b ∈ onesT.data.toList, ∀ st ∈ [(32 : UInt8), 9, 10, 13, 35, 41], Lib.contains twosT.data.toList [32, b, st, 32] = false := by decide +kernel
theorem no_41 : ∀ c : UInt8, Lib.contains twosT.data.toList [32, 41, c, 32] = false := by
  intro c
  have : ∀ n : Fin 256, Lib.contains twosT.data.toList [32, 41, UInt8.ofNat n.val, 32] = false := by decide +kernel
  have h := this ⟨c.toNat, UInt8.toNat_lt c⟩
  simpa using h
theorem mk1_mem (c : Int) (h : mk1 c = true) : c.toNat.toUInt8 ∈ onesT.data.toList := by
  unfold mk1 at h
  exact index_mem _ _ (of_decide_eq_true h)
theorem list2 (l : List UInt8) (h : 1 < l.length) : l.take 2 = [l[0], l[1]] := by
  match l, h with
  | a :: b :: r, _ => rfl
theorem two_eq (t : ByteArray) (h : 1 < t.size) : ((((⟨#[32]⟩ : ByteArray) ++ t.extract 0 2) ++ (⟨#[32]⟩ : ByteArray))).data.toList = [32, (bt t 0).toNat.toUInt8, (bt t 1).toNat.toUInt8, 32] := by
  have hl : 1 < t.data.toList.length := by rw [← Lib.size_eq]; exact h
  have e0 : (bt t 0).toNat.toUInt8 = t.data.toList[0] := by
    have := getD_bt t 0 (by omega)
    rw [List.getD_eq_getElem?_getD, List.getElem?_eq_getElem (by omega)] at this
    rw [show bt t ((0 : Nat) : Int) = bt t 0 from rfl] at this
    rw [← this]
    simp
  have e1 : (bt t 1).toNat.toUInt8 = t.data.toList[1] := by
    have := getD_bt t 1 (by omega)
    rw [List.getD_eq_getElem?_getD, List.getElem?_eq_getElem hl] at this
    rw [show bt t ((1 : Nat) : Int) = bt t 1 from rfl] at this
    rw [← this]
    simp
  have ex : (t.extract 0 2).data.toList = [t.data.toList[0], t.data.toList[1]] := by
    rw [Lib.extract_data, List.drop_zero]
    exact list2 _ hl
  rw [e0, e1, ByteArray.data_append, ByteArray.data_append, Array.toList_append, Array.toList_append, ex]
  rfl
theorem pre3 (t : ByteArray) : mk3 t = decide (3 ≤ t.size ∧ bt t 0 = 47 ∧ bt t 1 = 47 ∧ bt t 2 = 61) := by
  have g : ∀ k, k < t.size → bt t (k : Nat) = ((t.data.toList.getD k 0).toNat : Int) := fun k hk => (getD_bt t k hk).symm
  have hl := Lib.size_eq t
  unfold mk3 Lib.hasPrefix
  have key : ∀ l : List UInt8, ([47, 47, 61] : List UInt8).isPrefixOf l = decide (3 ≤ l.length ∧ l.getD 0 0 = 47 ∧ l.getD 1 0 = 47 ∧ l.getD 2 0 = 61) := by
    intro l
    match l with
    | [] => rfl
    | [a] => simp [List.isPrefixOf]
    | [a, b] => simp [List.isPrefixOf]
    | a :: b :: c :: r =>
      rw [Bool.eq_iff_iff, decide_eq_true_eq]
      show ((47 == a) && ((47 == b) && ((61 == c) && true))) = true ↔ _
      rw [Bool.and_true, Bool.and_eq_true, Bool.and_eq_true, beq_iff_eq, beq_iff_eq, beq_iff_eq]
      constructor
      · rintro ⟨rfl, rfl, rfl⟩
        exact ⟨by simp, rfl, rfl, rfl⟩
      · rintro ⟨_, e0, e1, e2⟩
        exact ⟨e0.symm, e1.symm, e2.symm⟩
  rw [key]
  have u : ∀ (b : UInt8) (n : UInt8), b = n ↔ ((b.toNat : Int) = (n.toNat : Int)) := by
    intro b n
    constructor
    · rintro rfl
      rfl
    · intro e
      apply UInt8.toNat_inj.1
      omega
  rw [decide_eq_decide, ← hl]
  constructor
  · rintro ⟨h3, h0, h1, h2⟩
    have e0 := g 0 (by omega)
    have e1 := g 1 (by omega)
    have e2 := g 2 (by omega)
    rw [h0] at e0
    rw [h1] at e1
    rw [h2] at e2
    exact ⟨h3, e0, e1, e2⟩
  · rintro ⟨h3, h0, h1, h2⟩
    have e0 := g 0 (by omega)
    have e1 := g 1 (by omega)
    have e2 := g 2 (by omega)
    rw [show ((0 : Nat) : Int) = 0 from rfl, h0] at e0
    rw [show ((1 : Nat) : Int) = 1 from rfl, h1] at e1
    rw [show ((2 : Nat) : Int) = 2 from rfl, h2] at e2
    exact ⟨h3, (u _ _).2 e0.symm, (u _ _).2 e1.symm, (u _ _).2 e2.symm⟩
theorem mk2_eq (t : ByteArray) (h : 1 < t.size) : mk2 t = Lib.contains twosT.data.toList [32, (bt t 0).toNat.toUInt8, (bt t 1).toNat.toUInt8, 32] := by
  unfold mk2
  rw [two_eq t h]

theorem mark_local (s S : ByteArray) (i j n : Nat) (hA : Agree s S i j n) (hn : 0 < n) (hm : markSz (s.extract i s.size) = n) (hstop : j + n < S.size → Stop (bt S ((j + n : Nat) : Int))) : markSz (S.extract j S.size) = n := by
  have hA1 := hA.1
  have hA2 := hA.2.1
  obtain ⟨t, ht⟩ : ∃ t, s.extract i s.size = t := ⟨_, rfl⟩
  obtain ⟨T, hT⟩ : ∃ T, S.extract j S.size = T := ⟨_, rfl⟩
  have hts : t.size = s.size - i := by rw [← ht, ByteArray.size_extract]; omega
  have hTs : T.size = S.size - j := by rw [← hT, ByteArray.size_extract]; omega
  have hb : ∀ k, k < n → bt t (k : Nat) = bt T (k : Nat) := by
    intro k hk
    rw [← ht, ← hT, bt_ext s i k (by omega), bt_ext S j k (by omega)]
    exact hA.at k hk
  have hst : n < T.size → Stop (bt T (n : Nat)) := by
    intro h
    rw [← hT, bt_ext S j n (by omega)]
    exact hstop (by omega)
  rw [ht] at hm
  rw [hT]
  clear ht hT hstop hA
  have b0 : bt t 0 = bt T 0 := hb 0 hn
  unfold markSz at hm ⊢
  by_cases c3 : mk3 t = true
  · rw [if_pos c3] at hm
    subst hm
    rw [pre3] at c3
    have d := of_decide_eq_true c3
    have b1 : bt t 1 = bt T 1 := hb 1 (by omega)
    have b2 : bt t 2 = bt T 2 := hb 2 (by omega)
    rw [if_pos (by rw [pre3]; exact decide_eq_true ⟨by omega, by rw [← b0, ← b1, ← b2]; exact d.2⟩)]
  · rw [if_neg c3] at hm
    by_cases c2 : 1 < t.size ∧ mk2 t = true
    · rw [if_pos c2] at hm
      subst hm
      have b1 : bt t 1 = bt T 1 := hb 1 (by omega)
      have d2 : mk2 T = true := by rw [mk2_eq T (by omega), ← b0, ← b1, ← mk2_eq t c2.1]; exact c2.2
      have d3 : mk3 T = false := by
        rw [pre3, decide_eq_false_iff_not]
        rintro ⟨h3, _, _, z⟩
        have := hst (by omega)
        rw [show bt T ((2 : Nat) : Int) = bt T 2 from rfl, z] at this
        unfold Stop at this
        omega
      rw [d3, if_neg (by decide), if_pos ⟨by omega, d2⟩]
    · rw [if_neg c2] at hm
      by_cases c1 : mk1 (bt t 0) = true
      · rw [if_pos c1] at hm
        subst hm
        have d3 : mk3 T = false := by
          rw [pre3, decide_eq_false_iff_not]
          rintro ⟨h3, _, z, _⟩
          have := hst (by omega)
          rw [show bt T ((1 : Nat) : Int) = bt T 1 from rfl, z] at this
          unfold Stop at this
          omega
        have d2 : ¬ (1 < T.size ∧ mk2 T = true) := by
          rintro ⟨h1, h2⟩
          have hs1 := hst h1
          rw [show bt T ((1 : Nat) : Int) = bt T 1 from rfl] at hs1
          rw [mk2_eq T h1, ← b0] at h2
          have hmem := mk1_mem _ c1
          have hst2 : (bt T 1).toNat.toUInt8 ∈ [(32 : UInt8), 9, 10, 13, 35, 41] := by
            rcases hs1 with e | e | e | e | e | e <;> rw [e] <;> decide
          rw [no_two _ hmem _ hst2] at h2
          exact absurd h2 (by decide)
        rw [d3, if_neg (by decide), if_neg d2, ← b0, if_pos c1]
      · rw [if_neg c1] at hm
        omega

theorem pieceR_local (s S : ByteArray) (hs : s.size ≤ 1073741824) (i j n : Nat) (hA : Agree s S i j n) (hin : i < s.size) (last more : Int) (opL opM : List Int) (he : (pieceR last more opL opM (pieceZ s s.size (i + 1) [])).e = 0) (hp : (pieceR last more opL opM (pieceZ s s.size (i + 1) [])).pos = i + n) :
    0 < n ∧ pieceR last more opL opM (pieceZ S S.size (j + 1) []) = ⟨0, j + n, (pieceR last more opL opM (pieceZ s s.size (i + 1) [])).kind, (pieceR last more opL opM (pieceZ s s.size (i + 1) [])).text, (pieceR last more opL opM (pieceZ s s.size (i + 1) [])).op⟩ := by
  unfold pieceR at he hp ⊢
  simp only at he hp ⊢
  have hr := pieceZ_range s hs s.size (i + 1) [] (by omega) he
  rw [hp] at hr
  have hA2 := hA.2.1
  refine ⟨by omega, ?_⟩
  rw [piece_local s S hs s.size (i + 1) [] (j + 1) S.size (n - 1) he (hA.sub 1 (n - 1) (by omega)) (by omega) (by omega)]
  simp only
  rw [show j + 1 + (n - 1) = j + n by omega]

theorem one_local (s S : ByteArray) (hs : s.size ≤ 1073741824) (i j n : Nat) (op : List Int) (hi : i < s.size) (hF : Fits op i) (he : (oneR s i op).e = 0) (hp : (oneR s i op).pos = i + n) (hA : Agree s S i j n) (hstop : j + n < S.size → Stop (bt S ((j + n : Nat) : Int))) :
    oneR S j op = ⟨0, j + n, (oneR s i op).kind, (oneR s i op).text, (oneR s i op).op⟩ := by
  have hrg := oneR_range s i op hi hs hF he
  rw [hp] at hrg
  have hn : 0 < n := by omega
  have hA1 := hA.1
  have hA2 := hA.2.1
  have hb := hA.head hn
  unfold oneR at he hp ⊢
  by_cases c1 : bt s (i : Int) = 34
  · rw [if_pos c1] at he hp ⊢
    rw [if_pos (hb ▸ c1)]
    exact (pieceR_local s S hs i j n hA hi 6 7 op (op ++ [0]) he hp).2
  · have c1' : ¬ bt S (j : Int) = 34 := hb ▸ c1
    rw [if_neg c1] at he hp ⊢
    rw [if_neg c1']
    by_cases c2 : letterB (bt s (i : Int)) = true
    · rw [if_pos c2] at he hp ⊢
      rw [if_pos (hb ▸ c2)]
      simp only at hp ⊢
      have hr := run_local inNameB s S i j n hA hp (fun h => (hstop h).name)
      rw [hr, hp, hA.extract n (Nat.le_refl _)]
    · rw [if_neg c2] at he hp ⊢
      rw [if_neg (hb ▸ c2)]
      by_cases c3 : (bt s (i : Int) = 36 ∨ bt s (i : Int) = 46) ∧ (i + 1 < s.size ∧ letterB (bt s ((i + 1 : Nat) : Int)) = true)
      · rw [if_pos c3] at he hp ⊢
        by_cases c4 : bt s (i : Int) = 36 ∧ plainB (s.extract (i + 1) (runEnd inNameB s (s.size - (i + 1)) (i + 1))) = false
        · rw [if_pos c4] at he
          simp at he
        · rw [if_neg c4] at hp ⊢
          simp only at hp ⊢
          have hn2 : 2 ≤ n := by
            have := runEnd_step inNameB s (i + 1) c3.2.1 (letter_name _ c3.2.2)
            omega
          have hA' := hA.sub 1 (n - 1) (by omega)
          have hr := run_local inNameB s S (i + 1) (j + 1) (n - 1) hA' (by rw [hp]; omega) (fun h => by rw [show j + 1 + (n - 1) = j + n by omega] at h ⊢; exact (hstop h).name)
          have hx := hA'.extract (n - 1) (Nat.le_refl _)
          rw [show i + 1 + (n - 1) = i + n by omega, show j + 1 + (n - 1) = j + n by omega] at hx
          rw [show j + 1 + (n - 1) = j + n by omega] at hr
          rw [hp] at c4
          rw [if_pos ⟨hb ▸ c3.1, by omega, by rw [← hA.at 1 (by omega)]; exact c3.2.2⟩, hr, ← hx, ← hb, if_neg c4, hp]
      · rw [if_neg c3] at he hp ⊢
        have c3' : ¬ ((bt S (j : Int) = 36 ∨ bt S (j : Int) = 46) ∧ (j + 1 < S.size ∧ letterB (bt S ((j + 1 : Nat) : Int)) = true)) := by
          rw [← hb]
          rintro ⟨z1, z2, z3⟩
          by_cases hn1 : n = 1
          · subst hn1
            rw [(hstop z2).letter] at z3
            exact absurd z3 (by decide)
          · exact c3 ⟨z1, by omega, by rw [hA.at 1 (by omega)]; exact z3⟩
        rw [if_neg c3']
        by_cases c5 : digitB (bt s (i : Int)) = true
        · rw [if_pos c5] at he hp ⊢
          rw [if_pos (hb ▸ c5)]
          by_cases c6 : formedB (s.extract i (runEnd numeralB s (s.size - i) i)) = true
          · rw [if_pos c6] at hp ⊢
            simp only at hp ⊢
            have hr := run_local numeralB s S i j n hA hp (fun h => (hstop h).numeral)
            rw [hp] at c6
            rw [hr, ← hA.extract n (Nat.le_refl _), if_pos c6, hp]
          · rw [if_neg c6] at he
            simp at he
        · rw [if_neg c5] at he hp ⊢
          rw [if_neg (hb ▸ c5)]
          unfold markR at he hp ⊢
          by_cases d0 : markSz (s.extract i s.size) = 0
          · rw [if_pos d0] at he
            simp at he
          · rw [if_neg d0] at he hp ⊢
            have key : markSz (s.extract i s.size) = n → markSz (S.extract j S.size) = n := fun e => mark_local s S i j n hA hn e hstop
            have cut : ∀ m, m ≤ n → (s.extract i s.size).extract 0 m = (S.extract j S.size).extract 0 m := by
              intro m hm
              have := hA.extract m hm
              apply ByteArray.ext
              apply Array.ext'
              have t2 : (s.extract i (i + m)).data.toList = (S.extract j (j + m)).data.toList := by rw [this]
              rw [Lib.extract_data, Lib.extract_data] at t2
              rw [Lib.extract_data, Lib.extract_data, Lib.extract_data, Lib.extract_data, List.drop_zero, List.drop_zero, List.take_of_length_le (l := s.data.toList.drop i) (by rw [List.length_drop, ← Lib.size_eq]; omega), List.take_of_length_le (l := S.data.toList.drop j) (by rw [List.length_drop, ← Lib.size_eq]; omega)]
              rw [show i + m - i = m by omega, show j + m - j = m by omega] at t2
              rw [Nat.sub_zero]
              exact t2
            by_cases d1 : op = [] ∨ markSz (s.extract i s.size) ≠ 1
            · rw [if_pos d1] at hp ⊢
              simp only at hp ⊢
              have e : markSz (s.extract i s.size) = n := by omega
              rw [key e, e, if_neg (by omega), if_pos (by rw [e] at d1; exact d1), cut n (Nat.le_refl _)]
            · rw [if_neg d1] at he hp ⊢
              have e1 : markSz (s.extract i s.size) = 1 := by
                apply Classical.byContradiction
                intro z
                exact d1 (Or.inr z)
              -- the size of the mark is one: so is that of the other
              have m1 : (n = 1 → markSz (S.extract j S.size) = 1) := fun e => by
                have := key (by rw [e1, e])
                omega
              by_cases d2 : bt s (i : Int) = 40
              · rw [if_pos d2] at hp ⊢
                simp only at hp ⊢
                have e : n = 1 := by omega
                rw [m1 e, if_neg (by decide), if_neg (by rintro (z | z); exact d1 (Or.inl z); exact z rfl), if_pos (hb ▸ d2), cut 1 (by omega), e]
              · rw [if_neg d2] at he hp ⊢
                by_cases d3 : bt s (i : Int) = 41
                · rw [if_pos d3] at he hp ⊢
                  have hS : bt S (j : Int) = 41 := hb ▸ d3
                  have mS : markSz (S.extract j S.size) = 1 := by
                    have hTs : (S.extract j S.size).size = S.size - j := by rw [ByteArray.size_extract]; omega
                    have h0 : bt (S.extract j S.size) 0 = 41 := by
                      have := bt_ext S j 0 (by omega)
                      rw [Nat.add_zero, hS] at this
                      exact this
                    unfold markSz
                    have p3 : mk3 (S.extract j S.size) = false := by
                      rw [pre3, decide_eq_false_iff_not, h0]
                      rintro ⟨_, z, _⟩
                      omega
                    have p2 : ¬ (1 < (S.extract j S.size).size ∧ mk2 (S.extract j S.size) = true) := by
                      rintro ⟨z1, z2⟩
                      rw [mk2_eq _ z1, h0] at z2
                      have := no_41 (bt (S.extract j S.size) 1).toNat.toUInt8
                      rw [show (41 : Int).toNat.toUInt8 = 41 from rfl, this] at z2
                      exact absurd z2 (by decide)
                    rw [p3, if_neg (by decide), if_neg p2, h0, if_pos (by decide)]
                  rw [mS, if_neg (by decide), if_neg (by rintro (z | z); exact d1 (Or.inl z); exact z rfl), if_neg (by rw [hS]; decide), if_pos hS]
                  by_cases d4 : op.getD (op.length - 1) 0 = 0
                  · rw [if_pos d4] at he hp ⊢
                    rw [if_pos d4]
                    exact (pieceR_local s S hs i j n hA hi 9 8 op.dropLast op he hp).2
                  · rw [if_neg d4] at hp ⊢
                    rw [if_neg d4]
                    simp only at hp ⊢
                    have e : n = 1 := by omega
                    rw [cut 1 (by omega), e]
                · rw [if_neg d3] at hp ⊢
                  simp only at hp ⊢
                  have e : n = 1 := by omega
                  rw [m1 e, if_neg (by decide), if_neg (by rintro (z | z); exact d1 (Or.inl z); exact z rfl), if_neg (hb ▸ d2), if_neg (hb ▸ d3), cut 1 (by omega), e]

end Go.Proofs.YtccabnimiacioaaDoor.U

namespace Go.Proofs.YtccabnimiacioaaDoor.U
open Go.RowKit Go.Proofs.YtccabnimiacioaaDoorW.PrintWords
set_option linter.unusedSimpArgs false
set_option linter.unusedVariables false

/-- blanks and whole remarks -/
inductive Gap : List UInt8 → Prop
  | none : Gap []
  | blank (c : UInt8) (l : List UInt8) : blankB (c.toNat : Int) = true → Gap l → Gap (c :: l)
  | remark (r l : List UInt8) : (∀ x ∈ r, x ≠ 10) → Gap l → Gap (35 :: (r ++ 10 :: l))
/-- what begins with no blank and no remark, or is at its end -/
def Solid (s : ByteArray) (i : Nat) : Prop := i = s.size ∨ (i < s.size ∧ blankB (bt s (i : Int)) = false ∧ bt s (i : Int) ≠ 35)

theorem drop_bt (S : ByteArray) (j : Nat) (b : UInt8) (l : List UInt8) (h : S.data.toList.drop j = b :: l) : j < S.size ∧ bt S (j : Int) = (b.toNat : Int) ∧ S.data.toList.drop (j + 1) = l := by
  have hlt : j < S.data.toList.length := by
    apply Classical.byContradiction
    intro c
    rw [List.drop_eq_nil_of_le (by omega)] at h
    cases h
  have hj : j < S.size := by rw [Lib.size_eq]; exact hlt
  rw [List.drop_eq_getElem_cons hlt] at h
  injection h with h1 h2
  refine ⟨hj, ?_, h2⟩
  rw [← getD_bt S j hj, List.getD_eq_getElem?_getD, List.getElem?_eq_getElem hlt, h1]
  rfl

theorem runEnd_stay (p : Int → Bool) (s : ByteArray) (f i : Nat) (h : i < s.size → p (bt s (i : Int)) = false) : runEnd p s f i = i := by
  cases f with
  | zero => rfl
  | succ f =>
    rw [runEnd]
    by_cases c : i < s.size
    · rw [if_pos c, h c, if_neg (by decide)]
    · rw [if_neg c]
theorem runEnd_next (p : Int → Bool) (s : ByteArray) (i : Nat) (hi : i < s.size) (h : p (bt s (i : Int)) = true) : runEnd p s (s.size - i) i = runEnd p s (s.size - (i + 1)) (i + 1) := by
  rw [show s.size - i = (s.size - (i + 1)) + 1 by omega, runEnd, if_pos hi, if_pos h]
theorem blank_35 : blankB 35 = false := by decide
theorem remark_35 : remarkB 35 = true := by decide
theorem remark_not (c : UInt8) (h : c ≠ 10) : remarkB (c.toNat : Int) = true := by
  have : ∀ n : Fin 256, n.val ≠ 10 → remarkB (n.val : Int) = true := by decide +kernel
  refine this ⟨c.toNat, UInt8.toNat_lt c⟩ ?_
  intro e
  apply h
  apply UInt8.toNat_inj.1
  exact e
theorem remark_10 : remarkB 10 = false := by decide
theorem blank_10 : blankB 10 = true := by decide

theorem run_remark (S : ByteArray) : ∀ (r : List UInt8) (l : List UInt8) (j : Nat), (∀ x ∈ r, x ≠ 10) → S.data.toList.drop j = r ++ 10 :: l → runEnd remarkB S (S.size - j) j = j + r.length
  | [], l, j, h, hd => by
    have := drop_bt S j 10 l hd
    exact runEnd_stay _ _ _ _ (fun _ => by rw [this.2.1]; exact remark_10)
  | b :: r, l, j, h, hd => by
    have hb := drop_bt S j b (r ++ 10 :: l) hd
    rw [runEnd_next remarkB S j hb.1 (by rw [hb.2.1]; exact remark_not b (h b List.mem_cons_self)), run_remark S r l (j + 1) (fun x hx => h x (List.mem_cons_of_mem _ hx)) hb.2.2]
    simp
    omega

/-- a gap is passed over -/
theorem skip_gap (S : ByteArray) : ∀ (n : Nat) (gap rest : List UInt8) (j f : Nat), gap.length ≤ n → Gap gap → S.data.toList.drop j = gap ++ rest → j ≤ S.size → S.size < j + f → Solid S (j + gap.length) → skipZ S f j = j + gap.length := by
  intro n
  induction n with
  | zero =>
    intro gap rest j f hn hG hd hj hf hS
    have hg : gap = [] := List.eq_nil_of_length_eq_zero (by omega)
    subst hg
    obtain ⟨f, rfl⟩ : ∃ m, f = m + 1 := ⟨f - 1, by omega⟩
    rw [List.length_nil, Nat.add_zero] at hS ⊢
    rw [skipZ]
    rcases hS with e | ⟨e1, e2, e3⟩
    · have he : runEnd blankB S (S.size - j) j = j := runEnd_stay _ _ _ _ (fun c => by omega)
      rw [he, if_pos e, e]
      rfl
    · have he : runEnd blankB S (S.size - j) j = j := runEnd_stay _ _ _ _ (fun c => e2)
      rw [he, if_neg (by omega), if_pos e3]
      rfl
  | succ n ih =>
    intro gap rest j f hn hG hd hj hf hS
    obtain ⟨f, rfl⟩ : ∃ m, f = m + 1 := ⟨f - 1, by omega⟩
    cases hG with
    | none => exact ih [] rest j (f + 1) (by simp) Gap.none hd hj hf hS
    | blank c l hc hl =>
      have hb := drop_bt S j c (l ++ rest) hd
      have step : skipZ S (f + 1) j = skipZ S (f + 1) (j + 1) := by
        rw [skipZ, skipZ, runEnd_next blankB S j hb.1 (by rw [hb.2.1]; exact hc)]
      rw [step, ih l rest (j + 1) (f + 1) (by simpa using hn) hl hb.2.2 (by omega) (by omega) (by rw [List.length_cons] at hS; rw [show j + 1 + l.length = j + (l.length + 1) by omega]; exact hS), List.length_cons]
      omega
    | remark r l hr hl =>
      have hd' : S.data.toList.drop j = 35 :: (r ++ 10 :: (l ++ rest)) := by rw [hd]; simp
      have hb := drop_bt S j 35 _ hd'
      have hb1 : bt S (j : Int) = 35 := hb.2.1
      have he : runEnd blankB S (S.size - j) j = j := runEnd_stay _ _ _ _ (fun c => by rw [hb1]; exact blank_35)
      have hrun : runEnd remarkB S (S.size - j) j = j + 1 + r.length := by
        rw [runEnd_next remarkB S j hb.1 (by rw [hb1]; exact remark_35), run_remark S r _ (j + 1) hr hb.2.2]
      have hd2 : S.data.toList.drop (j + 1 + r.length) = (10 :: l) ++ rest := by
        rw [← List.drop_drop, hb.2.2, List.drop_left]
        rfl
      have hlt := drop_bt S (j + 1 + r.length) 10 (l ++ rest) hd2
      simp only [List.length_cons, List.length_append] at hn hS ⊢
      rw [skipZ, he, if_neg (by omega), if_neg (by rw [hb1]; decide), hrun]
      rw [ih (10 :: l) rest (j + 1 + r.length) f (by simp; omega) (Gap.blank 10 l blank_10 hl) hd2 (by omega) (by omega) (by rw [List.length_cons]; rw [show j + 1 + r.length + (l.length + 1) = j + (r.length + (l.length + 1) + 1) by omega]; exact hS)]
      simp
      omega
theorem skip_solid (s : ByteArray) : ∀ (f i : Nat), i ≤ s.size → s.size < i + f → Solid s (skipZ s f i)
  | 0, i, h1, h2 => by omega
  | f + 1, i, h1, h2 => by
    have hb := runEnd_bounds blankB s (s.size - i) i h1
    have hs := (runEnd_spec blankB s (s.size - i) i h1 (Nat.le_refl _)).2
    rw [skipZ]
    by_cases c1 : runEnd blankB s (s.size - i) i = s.size
    · rw [if_pos c1]
      exact Or.inl rfl
    · rw [if_neg c1]
      by_cases c2 : bt s (runEnd blankB s (s.size - i) i : Nat) ≠ 35
      · rw [if_pos c2]
        exact Or.inr ⟨by omega, hs (by omega), c2⟩
      · rw [if_neg c2]
        have e35 : bt s (runEnd blankB s (s.size - i) i : Nat) = 35 := by
          apply Classical.byContradiction
          intro z
          exact c2 z
        have hst := runEnd_step remarkB s (runEnd blankB s (s.size - i) i) (by omega) (by rw [e35]; exact remark_35)
        exact skip_solid s f _ hst.2 (by omega)
theorem skip_stay (s : ByteArray) (f i : Nat) (h : Solid s i) : skipZ s (f + 1) i = i := by
  rw [skipZ]
  rcases h with e | ⟨e1, e2, e3⟩
  · rw [runEnd_stay _ _ _ _ (fun c => by omega), if_pos e, e]
  · rw [runEnd_stay _ _ _ _ (fun c => e2), if_neg (by omega), if_pos e3]

/-- a Mid or an End begins with its bracket -/
theorem kind_end (s : ByteArray) (i : Nat) (op : List Int) (h : (oneR s i op).kind = 8 ∨ (oneR s i op).kind = 9) : bt s (i : Int) = 41 := by
  unfold oneR at h
  by_cases c1 : bt s (i : Int) = 34
  · rw [if_pos c1] at h
    unfold pieceR at h
    simp only at h
    split at h <;> omega
  · rw [if_neg c1] at h
    split at h
    · simp only at h
      split at h <;> omega
    · split at h
      · split at h
        · simp only at h
          omega
        · simp only at h
          split at h <;> omega
      · split at h
        · split at h
          · simp only at h
            omega
          · simp only at h
            omega
        · unfold markR at h
          split at h
          · simp only at h
            omega
          · split at h
            · simp only at h
              omega
            · split at h
              · simp only at h
                omega
              · split at h
                · assumption
                · simp only at h
                  omega

/-- the text of tokens, a gap ahead of each that is no Mid and no End -/
def wideL (gap : List UInt8) (s : ByteArray) : List Tok → List UInt8
  | [] => []
  | t :: l => (if t.f0 = 8 ∨ t.f0 = 9 then [] else gap) ++ ((s.extract t.f1.toNat t.f2.toNat).data.toList ++ wideL gap s l)
/-- the tokens at their places in that text -/
def movedL (gl : Nat) : Nat → List Tok → List Tok
  | _, [] => []
  | j, t :: l => ⟨t.f0, ((j + (if t.f0 = 8 ∨ t.f0 = 9 then 0 else gl) : Nat) : Int), ((j + (if t.f0 = 8 ∨ t.f0 = 9 then 0 else gl) + (t.f2 - t.f1).toNat : Nat) : Int), t.f3⟩ :: movedL gl (j + (if t.f0 = 8 ∨ t.f0 = 9 then 0 else gl) + (t.f2 - t.f1).toNat) l

theorem agree_of_drop (s S : ByteArray) (i j n : Nat) (rest : List UInt8) (h : S.data.toList.drop j = (s.extract i (i + n)).data.toList ++ rest) (hi : i + n ≤ s.size) (hjs : j ≤ S.size) : Agree s S i j n := by
  have hl : ((s.extract i (i + n)).data.toList).length = n := by
    rw [← Lib.size_eq, ByteArray.size_extract]
    omega
  have hj : n ≤ S.size - j := by
    have := congrArg List.length h
    rw [List.length_drop, List.length_append, hl, ← Lib.size_eq] at this
    omega
  refine ⟨hi, by omega, ?_⟩
  intro k hk
  have e : (S.data.toList.drop j)[k]? = (s.data.toList.drop i)[k]? := by
    rw [h, List.getElem?_append_left (by omega), Lib.extract_data, List.getElem?_take_of_lt (by omega)]
  rw [List.getElem?_drop, List.getElem?_drop] at e
  rw [← getD_bt s (i + k) (by omega), ← getD_bt S (j + k) (by omega), List.getD_eq_getElem?_getD, List.getD_eq_getElem?_getD, e]

theorem scan_wide (gap : List UInt8) (hG : Gap gap) (c0 : UInt8) (r0 : List UInt8) (g0 : gap = c0 :: r0) (g1 : Stop (c0.toNat : Int)) (s : ByteArray) (hs : s.size ≤ 1073741824) : ∀ (f i : Nat) (toks : List Tok) (op : List Int), i ≤ s.size → Fits op i → s.size < i + f → Solid s i →
    (scanZ s f i toks op).2.1 = 0 → ∃ new, (scanZ s f i toks op).1 = toks ++ new ∧ new.length + i ≤ s.size ∧ (wideL gap s new).length + i ≤ s.size + gap.length * new.length ∧ (∀ t ∈ new, 0 ≤ t.f1 ∧ t.f1 ≤ t.f2 ∧ t.f2 ≤ s.size) ∧ (∃ c r, wideL gap s new ++ gap = c :: r ∧ Stop (c.toNat : Int)) ∧
      ∀ (S : ByteArray) (j g : Nat) (toks2 : List Tok), S.data.toList.drop j = wideL gap s new ++ gap → j ≤ S.size → S.size < j + g → scanZ S g (skipZ S (S.size + 1 - j) j) toks2 op = (toks2 ++ movedL gap.length j new, 0, 0)
  | 0, i, toks, op, hi, _, hf, _, _ => by omega
  | f + 1, i, toks, op, hi, hF, hf, hSo, he => by
    rw [scanZ] at he ⊢
    by_cases hp : i < s.size
    · rw [if_pos hp] at he ⊢
      by_cases h0 : (oneR s i op).e = 0
      · rw [if_pos h0] at he ⊢
        have hok := oneR_range s i op hp hs hF h0
        have hke := kind_end s i op
        obtain ⟨n, hn⟩ : ∃ n, (oneR s i op).pos = i + n := ⟨(oneR s i op).pos - i, by omega⟩
        have hloc := fun S j hA hst => one_local s S hs i j n op hp hF h0 hn hA hst
        obtain ⟨r, hr⟩ : ∃ r, oneR s i op = r := ⟨_, rfl⟩
        rw [hr] at he h0 hok hke hn hloc ⊢
        obtain ⟨re, rp, rk, rt, ro⟩ := r
        simp only at he h0 hok hke hn hloc ⊢
        subst hn
        obtain ⟨o1, o2, o3⟩ := hok
        have hb := skipZ_bounds s (s.size + 1 - (i + n)) (i + n) o2
        obtain ⟨new, n1, n2, nw, n3, ⟨c1, r1, n4, n5⟩, n6⟩ := scan_wide gap hG c0 r0 g0 g1 s hs f _ _ ro hb.2 (o3.mono hb.1) (by omega) (skip_solid s _ _ o2 (by omega)) he
        have hx : (s.extract ((i : Int)).toNat (((i + n : Nat) : Int)).toNat) = s.extract i (i + n) := rfl
        have hfirst : ∃ l, (s.extract i (i + n)).data.toList = s.data.toList[i]'(by rw [← Lib.size_eq]; exact hp) :: l := by
          have hl : i < s.data.toList.length := by rw [← Lib.size_eq]; exact hp
          rw [Lib.extract_data, List.drop_eq_getElem_cons hl, show i + n - i = (n - 1) + 1 by omega, List.take_succ_cons]
          exact ⟨_, rfl⟩
        have hbt : ((s.data.toList[i]'(by rw [← Lib.size_eq]; exact hp)).toNat : Int) = bt s (i : Int) := by
          have hl : i < s.data.toList.length := by rw [← Lib.size_eq]; exact hp
          rw [← getD_bt s i hp, List.getD_eq_getElem?_getD, List.getElem?_eq_getElem hl]
          rfl
        have hsol : blankB (bt s (i : Int)) = false ∧ bt s (i : Int) ≠ 35 := by
          rcases hSo with e | e
          · omega
          · exact e.2
        refine ⟨⟨rk, i, ((i + n : Nat) : Int), rt⟩ :: new, by rw [n1]; simp, by rw [List.length_cons]; omega, ?_, ?_, ?_, ?_⟩
        · have hxl : (s.extract i (i + n)).data.toList.length = n := by
            rw [← Lib.size_eq, ByteArray.size_extract]
            omega
          have hgl : (if rk = 8 ∨ rk = 9 then ([] : List UInt8) else gap).length ≤ gap.length := by
            split
            · simp
            · exact Nat.le_refl _
          rw [wideL, List.length_append, List.length_append, List.length_cons, Nat.mul_succ]
          simp only
          rw [hx, hxl]
          omega
        · intro t ht
          rcases List.mem_cons.1 ht with rfl | ht
          · simp only
            omega
          · exact n3 t ht
        · unfold wideL
          simp only
          by_cases k : rk = 8 ∨ rk = 9
          · rw [if_pos k, hx]
            obtain ⟨l, hl⟩ := hfirst
            rw [hl]
            refine ⟨_, _, rfl, ?_⟩
            rw [hbt, hke k]
            unfold Stop
            omega
          · rw [if_neg k, g0]
            exact ⟨_, _, rfl, g1⟩
        · intro S j g toks2 hd hj hg
          unfold wideL at hd
          simp only at hd
          rw [hx] at hd
          unfold movedL
          simp only
          obtain ⟨gl, hgl⟩ : ∃ gl, (if rk = 8 ∨ rk = 9 then 0 else gap.length) = gl := ⟨_, rfl⟩
          rw [hgl]
          obtain ⟨pre, hpre⟩ : ∃ pre, (if rk = 8 ∨ rk = 9 then ([] : List UInt8) else gap) = pre := ⟨_, rfl⟩
          rw [hpre] at hd
          have hpl : pre.length = gl := by
            rw [← hpre, ← hgl]
            split <;> rfl
          have hpG : Gap pre := by
            rw [← hpre]
            split
            · exact Gap.none
            · exact hG
          rw [List.append_assoc] at hd
          have hd2 : S.data.toList.drop (j + gl) = (s.extract i (i + n)).data.toList ++ (wideL gap s new ++ gap) := by
            rw [← List.drop_drop, hd, ← hpl, List.drop_left, List.append_assoc]
          have hjl : j + gl ≤ S.size := by
            have := congrArg List.length hd
            rw [List.length_drop, List.length_append, hpl, ← Lib.size_eq] at this
            omega
          have hA := agree_of_drop s S i (j + gl) n _ hd2 o2 hjl
          have hjS : j + gl < S.size := by have := hA.2.1; omega
          have hhead := hA.head (by omega)
          have hsk : skipZ S (S.size + 1 - j) j = j + gl := by
            rw [← hpl]
            refine skip_gap S pre.length pre _ j _ (Nat.le_refl _) hpG hd hj (by omega) (Or.inr ?_)
            rw [hpl]
            exact ⟨hjS, by rw [← hhead]; exact hsol.1, by rw [← hhead]; exact hsol.2⟩
          have hd3 : S.data.toList.drop (j + gl + n) = wideL gap s new ++ gap := by
            rw [← List.drop_drop, hd2]
            have hl : ((s.extract i (i + n)).data.toList).length = n := by
              rw [← Lib.size_eq, ByteArray.size_extract]
              omega
            have := List.drop_left (l₁ := (s.extract i (i + n)).data.toList) (l₂ := wideL gap s new ++ gap)
            rw [hl] at this
            exact this
          have hstop : j + gl + n < S.size → Stop (bt S ((j + gl + n : Nat) : Int)) := by
            intro _
            rw [n4] at hd3
            rw [(drop_bt S _ _ _ hd3).2.1]
            exact n5
          have h1 := hloc S (j + gl) hA hstop
          obtain ⟨g, rfl⟩ : ∃ m, g = m + 1 := ⟨g - 1, by omega⟩
          rw [hsk, scanZ, if_pos hjS, h1]
          simp only
          rw [if_pos trivial]
          have hA2 := hA.2.1
          rw [n6 S (j + gl + n) g _ hd3 hA2 (by omega)]
          have en : (((i + n : Nat) : Int) - (i : Int)).toNat = n := by omega
          rw [en]
          simp
      · rw [if_neg h0] at he
        exact absurd he h0
    · rw [if_neg hp] at he ⊢
      by_cases ho : op = []
      · rw [if_pos ho]
        refine ⟨[], by simp, by simp; omega, by simp [wideL]; omega, by simp, ⟨c0, r0, by simpa [wideL] using g0, g1⟩, ?_⟩
        intro S j g toks2 hd hj hg
        have hd' : S.data.toList.drop j = gap ++ [] := by simpa [wideL] using hd
        have hlen : S.size = j + gap.length := by
          have := congrArg List.length hd'
          rw [List.length_drop, ← Lib.size_eq, List.append_nil] at this
          omega
        rw [skip_gap S gap.length gap [] j _ (Nat.le_refl _) hG hd' hj (by omega) (Or.inl hlen.symm)]
        obtain ⟨g, rfl⟩ : ∃ m, g = m + 1 := ⟨g - 1, by omega⟩
        rw [scanZ, if_neg (by omega), if_pos ho]
        simp [movedL]
      · rw [if_neg ho] at he
        exact absurd he (by show (21 : Int) ≠ 0; decide)

end Go.Proofs.YtccabnimiacioaaDoor.U

namespace Go.Proofs.YtccabnimiacioaaDoor.U
open Go.RowKit Go.Proofs.YtccabnimiacioaaDoorW.PrintWords
set_option linter.unusedSimpArgs false
set_option linter.unusedVariables false

theorem wideL_append (gap : List UInt8) (s : ByteArray) (l2 : List Tok) : ∀ l : List Tok, wideL gap s (l ++ l2) = wideL gap s l ++ wideL gap s l2
  | [] => rfl
  | u :: l => by
    rw [List.cons_append, wideL, wideL, wideL_append gap s l2 l]
    simp only [List.append_assoc]
theorem wideL_snoc (gap : List UInt8) (s : ByteArray) (t : Tok) (l : List Tok) : wideL gap s (l ++ [t]) = wideL gap s l ++ ((if t.f0 = 8 ∨ t.f0 = 9 then [] else gap) ++ (s.extract t.f1.toNat t.f2.toNat).data.toList) := by
  rw [wideL_append, wideL, wideL, List.append_nil]
theorem piece_len (s : ByteArray) (t : Tok) (h : 0 ≤ t.f1 ∧ t.f1 ≤ t.f2 ∧ t.f2 ≤ s.size) : (s.extract t.f1.toNat t.f2.toNat).data.toList.length = (t.f2 - t.f1).toNat := by
  rw [← Lib.size_eq, ByteArray.size_extract]
  omega
theorem movedL_snoc (gap : List UInt8) (s : ByteArray) (t : Tok) : ∀ (l : List Tok) (j : Nat), (∀ u ∈ l, 0 ≤ u.f1 ∧ u.f1 ≤ u.f2 ∧ u.f2 ≤ s.size) →
    movedL gap.length j (l ++ [t]) = movedL gap.length j l ++ [⟨t.f0, ((j + (wideL gap s l).length + (if t.f0 = 8 ∨ t.f0 = 9 then 0 else gap.length) : Nat) : Int), ((j + (wideL gap s l).length + (if t.f0 = 8 ∨ t.f0 = 9 then 0 else gap.length) + (t.f2 - t.f1).toNat : Nat) : Int), t.f3⟩]
  | [], j, h => by simp [movedL, wideL]
  | u :: l, j, h => by
    have hp := piece_len s u (h u List.mem_cons_self)
    have ih := movedL_snoc gap s t l (j + (if u.f0 = 8 ∨ u.f0 = 9 then 0 else gap.length) + (u.f2 - u.f1).toNat) (fun x hx => h x (List.mem_cons_of_mem _ hx))
    have hg : (if u.f0 = 8 ∨ u.f0 = 9 then ([] : List UInt8) else gap).length = (if u.f0 = 8 ∨ u.f0 = 9 then 0 else gap.length) := by split <;> rfl
    have hw : (wideL gap s (u :: l)).length = (if u.f0 = 8 ∨ u.f0 = 9 then 0 else gap.length) + (u.f2 - u.f1).toNat + (wideL gap s l).length := by
      rw [wideL, List.length_append, List.length_append, hp, hg]
      omega
    rw [List.cons_append, movedL, movedL, ih, hw]
    simp only [Nat.add_assoc, List.cons_append]
theorem movedL_len (gl : Nat) : ∀ (l : List Tok) (j : Nat), (movedL gl j l).length = l.length
  | [], j => rfl
  | t :: l, j => by
    show (movedL gl _ l).length + 1 = _
    rw [movedL_len gl l]
    rfl

/-- the text of the first tokens -/
def wideB (gap : ByteArray) (s : ByteArray) (L : List Tok) (d : Nat) : ByteArray := ⟨(wideL gap.data.toList s (L.take d)).toArray⟩
def movedB (gap : ByteArray) (L : List Tok) (d : Nat) : List Tok := movedL gap.size 0 (L.take d)
def gapT (b : Bool) : ByteArray := if b = true then ⟨#[35, 32, 34, 120, 92, 40, 10]⟩ else ⟨#[32, 9]⟩
theorem wideB_size (gap s : ByteArray) (L : List Tok) (d : Nat) : (wideB gap s L d).size = (wideL gap.data.toList s (L.take d)).length := by
  rw [Lib.size_eq]
  simp [wideB]
theorem take_snoc_tok (L : List Tok) (d : Nat) (h : d < L.length) : L.take (d + 1) = L.take d ++ [L[d]] := by
  rw [List.take_succ_eq_append_getElem h]
theorem wideB_yes (gap s : ByteArray) (L : List Tok) (d : Nat) (h : d < L.length) (k : L[d].f0 = 8 ∨ L[d].f0 = 9) : wideB gap s L d ++ s.extract L[d].f1.toNat L[d].f2.toNat = wideB gap s L (d + 1) := by
  apply ByteArray.ext
  apply Array.ext'
  rw [ByteArray.data_append, Array.toList_append]
  unfold wideB
  rw [take_snoc_tok L d h, wideL_snoc, if_pos k]
  simp
theorem wideB_no (gap s : ByteArray) (L : List Tok) (d : Nat) (h : d < L.length) (k : ¬ (L[d].f0 = 8 ∨ L[d].f0 = 9)) : (wideB gap s L d ++ gap) ++ s.extract L[d].f1.toNat L[d].f2.toNat = wideB gap s L (d + 1) := by
  apply ByteArray.ext
  apply Array.ext'
  rw [ByteArray.data_append, Array.toList_append, ByteArray.data_append, Array.toList_append]
  unfold wideB
  rw [take_snoc_tok L d h, wideL_snoc, if_neg k]
  simp
theorem movedB_yes (gap s : ByteArray) (L : List Tok) (d : Nat) (h : d < L.length) (hB : ∀ t ∈ L, 0 ≤ t.f1 ∧ t.f1 ≤ t.f2 ∧ t.f2 ≤ s.size) (k : L[d].f0 = 8 ∨ L[d].f0 = 9) : movedB gap L (d + 1) = movedB gap L d ++ [⟨L[d].f0, ((wideB gap s L d).size : Int), ((wideB gap s L (d + 1)).size : Int), L[d].f3⟩] := by
  have hp := piece_len s L[d] (hB _ (List.getElem_mem h))
  unfold movedB
  rw [wideB_size, wideB_size, take_snoc_tok L d h, wideL_snoc, if_pos k]
  have hl : gap.size = gap.data.toList.length := Lib.size_eq gap
  rw [hl, movedL_snoc gap.data.toList s L[d] (L.take d) 0 (fun u hu => hB u (List.mem_of_mem_take hu)), if_pos k]
  rw [List.length_append, List.length_append, hp]
  simp
theorem movedB_no (gap s : ByteArray) (L : List Tok) (d : Nat) (h : d < L.length) (hB : ∀ t ∈ L, 0 ≤ t.f1 ∧ t.f1 ≤ t.f2 ∧ t.f2 ≤ s.size) (k : ¬ (L[d].f0 = 8 ∨ L[d].f0 = 9)) : movedB gap L (d + 1) = movedB gap L d ++ [⟨L[d].f0, ((wideB gap s L d ++ gap).size : Int), ((wideB gap s L (d + 1)).size : Int), L[d].f3⟩] := by
  have hp := piece_len s L[d] (hB _ (List.getElem_mem h))
  have hl : gap.size = gap.data.toList.length := Lib.size_eq gap
  have hs : (wideB gap s L d ++ gap).size = (wideB gap s L d).size + gap.size := ByteArray.size_append
  unfold movedB
  rw [hs, wideB_size, wideB_size, take_snoc_tok L d h, wideL_snoc, if_neg k]
  rw [hl, movedL_snoc gap.data.toList s L[d] (L.take d) 0 (fun u hu => hB u (List.mem_of_mem_take hu)), if_neg k]
  rw [List.length_append, List.length_append, hp]
  simp
  omega

theorem sameTok_f (t : Tok) : hallmarkkit_SameToken.f t.f0 t.f1 t.f2 t.f3 t.f0 t.f1 t.f2 t.f3 = some true := by
  unfold hallmarkkit_SameToken.f
  simp
theorem sameToks_loop (l : List Tok) (hl : l.length ≤ 4194304) : ∀ (n i k : Nat), i + n = l.length → n < k → hallmarkkit_SameTokens.l0 k l l i = some true
  | 0, i, k, hi, hk => by
    obtain ⟨k, rfl⟩ : ∃ m, k = m + 1 := ⟨k - 1, by omega⟩
    rw [hallmarkkit_SameTokens.l0, if_neg (by omega)]
  | n + 1, i, k, hi, hk => by
    obtain ⟨k, rfl⟩ : ∃ m, k = m + 1 := ⟨k - 1, by omega⟩
    have hw : wrap64 ((i : Int) + 1) = ((i + 1 : Nat) : Int) := by unfold wrap64; omega
    rw [hallmarkkit_SameTokens.l0, if_pos (by omega), if_pos (by omega), if_pos (by omega), sameTok_f, Option.bind_some, if_pos rfl, hw]
    exact sameToks_loop l hl n (i + 1) k (by omega) (by omega)
theorem sameToks_eq (l : List Tok) (hl : l.length ≤ 4194304) (k : Nat) (hk : l.length < k) : hallmarkkit_SameTokens.f k l l = some true := by
  unfold hallmarkkit_SameTokens.f
  rw [if_pos rfl]
  exact sameToks_loop l hl l.length 0 k (by omega) hk

theorem gapT_gap (b : Bool) : Gap (gapT b).data.toList ∧ ∃ c r, (gapT b).data.toList = c :: r ∧ Stop (c.toNat : Int) := by
  cases b
  · refine ⟨Gap.blank 32 _ (by decide) (Gap.blank 9 _ (by decide) Gap.none), 32, _, rfl, Or.inl rfl⟩
  · refine ⟨Gap.remark [32, 34, 120, 92, 40] [] (by decide) Gap.none, 35, _, rfl, ?_⟩
    unfold Stop
    decide

theorem own_under {w w' : World} {base : Nat} {e : TypeId} {size : Nat} {v : Value} {n : Nat} {xs : List Value} (h : w.ownsRow base e size v n xs) (hb : Below w.heap.size w w') : w'.ownsRow base e size v n xs :=
  own_move h fun k hk => hb.block k (own_lt h k hk)
theorem own_set {w : World} {base : Nat} {e : TypeId} {size : Nat} {v : Value} {n : Nat} {xs : List Value} (h : w.ownsRow base e size v n xs) {g : Nat} (hne : v.ownBlock ≠ some g) (i : Nat) (u : Value) : (w.setCell ⟨g, i, none⟩ u).ownsRow base e size v n xs :=
  own_move h fun k hk => Below.heap_setCell w ⟨g, i, none⟩ u k (by rintro rfl; exact hne hk)
theorem own_dr {w : World} {base : Nat} {e : TypeId} {size : Nat} {v : Value} {n : Nat} {xs : List Value} (h : w.ownsRow base e size v n xs) (m : Nat) : (w.drewN m).ownsRow base e size v n xs := own_move h fun _ _ => rfl
theorem own_dr1 {w : World} {base : Nat} {e : TypeId} {size : Nat} {v : Value} {n : Nat} {xs : List Value} (h : w.ownsRow base e size v n xs) : (w.drew).ownsRow base e size v n xs := own_move h fun _ _ => rfl

theorem scan_err (s : ByteArray) : ∀ (f i : Nat) (toks : List Tok) (op : List Int), (scanZ s f i toks op).2.1 ≠ 0 → (scanZ s f i toks op).1 = []
  | 0, i, toks, op, _ => rfl
  | f + 1, i, toks, op, h => by
    rw [scanZ] at h ⊢
    by_cases hp : i < s.size
    · rw [if_pos hp] at h ⊢
      by_cases he : (oneR s i op).e = 0
      · rw [if_pos he] at h ⊢
        exact scan_err s f _ _ _ h
      · rw [if_neg he]
    · rw [if_neg hp] at h ⊢
      by_cases ho : op = []
      · rw [if_pos ho] at h
        exact absurd rfl h
      · rw [if_neg ho]
theorem rd_toke (l : List Tok) (i : Nat) (h : i < l.length) : rd_T23 l (i : Int) = l[i] := by
  unfold rd_T23
  rw [Int.toNat_natCast, List.getD_eq_getElem?_getD, List.getElem?_eq_getElem h]
  rfl

/-- what the law's second scan answers -/
theorem gaps_told (a0 : ByteArray) (h : a0.size ≤ 1048576) (b : Bool) (L : List Tok) (e p : Int) (hL : scanR a0 = (L, e, p)) :
    (e ≠ 0 ∧ L = []) ∨ (e = 0 ∧ L.length ≤ a0.size ∧ (∀ t ∈ L, 0 ≤ t.f1 ∧ t.f1 ≤ t.f2 ∧ t.f2 ≤ a0.size) ∧ (wideB (gapT b) a0 L L.length).size ≤ 9000000 ∧ (∀ d, (wideB (gapT b) a0 L d).size ≤ (wideB (gapT b) a0 L L.length).size) ∧ scanR (wideB (gapT b) a0 L L.length ++ gapT b) = (movedB (gapT b) L L.length, 0, 0)) := by
  obtain ⟨hG, c, r, g0, g1⟩ := gapT_gap b
  have hgs : (gapT b).data.toList.length ≤ 7 := by cases b <;> decide
  have hb := skipZ_bounds a0 (a0.size + 1) 0 (Nat.zero_le _)
  have hnest := scan_err a0 (a0.size + 1) (skipZ a0 (a0.size + 1) 0) [] []
  have hw := scan_wide (gapT b).data.toList hG c r g0 g1 a0 (by omega) (a0.size + 1) (skipZ a0 (a0.size + 1) 0) [] [] hb.2 ⟨Nat.zero_le _, fun y hy => absurd hy List.not_mem_nil⟩ (by omega) (skip_solid a0 _ 0 (Nat.zero_le _) (by omega))
  unfold scanR at hL
  rw [hL] at hnest hw
  by_cases n1 : e ≠ 0
  · exact Or.inl ⟨n1, hnest n1⟩
  · have n1 : e = 0 := Classical.byContradiction n1
    obtain ⟨new, w1, w2, w3, w4, _, w6⟩ := hw n1
    rw [List.nil_append] at w1
    simp only at w1 n1
    subst w1
    have hfull : L.take L.length = L := List.take_of_length_le (Nat.le_refl _)
    have hm : (gapT b).data.toList.length * L.length ≤ 7 * L.length := Nat.mul_le_mul_right _ hgs
    refine Or.inr ⟨n1, by omega, w4, ?_, ?_, ?_⟩
    · rw [wideB_size, hfull]
      omega
    · intro d
      rw [wideB_size, wideB_size, hfull]
      have := wideL_append (gapT b).data.toList a0 (L.drop d) (L.take d)
      rw [List.take_append_drop] at this
      rw [this, List.length_append]
      omega
    · have hS : (wideB (gapT b) a0 L L.length ++ gapT b).data.toList = wideL (gapT b).data.toList a0 L ++ (gapT b).data.toList := by
        rw [ByteArray.data_append, Array.toList_append]
        unfold wideB
        rw [hfull]
      have := w6 (wideB (gapT b) a0 L L.length ++ gapT b) 0 ((wideB (gapT b) a0 L L.length ++ gapT b).size + 1) [] (by rw [List.drop_zero]; exact hS) (Nat.zero_le _) (by omega)
      unfold scanR movedB
      rw [hfull, ← Lib.size_eq] at *
      exact this

set_option maxHeartbeats 16000000 in
set_option maxRecDepth 100000 in
theorem gaps_calls (a0 : ByteArray) (b : Bool) (h : a0.size ≤ 1048576) (w : World) (hT : Tabs w) :
    Calls Tryd.prog 4 #[.string a0, .bool b] w fun e w' => e = .returned (.bool true) ∧ Below w.heap.size w w' := by
  obtain ⟨i0, hi0, hz0, hz1, hz2⟩ := info_parts info23
  have HI := Lib.hid hi0
  have HZ0 := Lib.hid hz0
  have HZ1 := Lib.hid hz1
  have HZ2 := Lib.hid hz2
  clear hi0 hz0 hz1 hz2
  have hK := fun W (hW : Tabs W) => hallmarklaw16_WordKnown.calls 20 true W hW (known_at 20 (Nat.le_refl _))
  obtain ⟨⟨L, e, p⟩, hL⟩ : ∃ R, scanR a0 = R := ⟨_, rfl⟩
  have hS := fun W (hW : Tabs W) => word_Scan.calls a0 L e p W hW (by unfold word_Scan.f; rw [if_pos (by omega), hL])
  have htold := gaps_told a0 h b L e p hL
  have HT := Lib.hid hT
  clear hT hL
  rcases htold with ⟨he, hLn⟩ | ⟨he, hn, hB, hw1, hw2, hfin⟩
  · subst hLn
    have he' : (e != 0) = true := bne_iff_ne.2 he
    clear he
    go_enter Tryd.func4, Tryd.ntmps4
    go_wp2_with (first | (go_at_call 3; (with_reducible refine (hK _ HT.out).mono ?_); rintro e1 w1 ⟨rfl, hb1⟩; have HB1 := Lib.hid hb1; clear hb1) | (go_at_call 9; (with_reducible refine (hS _ (HT.out.below HB1.out)).mono ?_); rintro e2 w2 ⟨v, rfl, hR, hb2⟩; have HR := Lib.hid hR; clear hR; obtain ⟨A, c, rfl⟩ := Kd.R_slice HR.out; have HB2 := Lib.hid (HB1.out.trans (hb2.mono HB1.out.size)); clear hb2))
    go_ret
    exact ⟨rfl, HB2.out⟩
  · subst he
    obtain ⟨n, hnn⟩ : ∃ n, L.length = n := ⟨_, rfl⟩
    obtain ⟨G, hG⟩ : ∃ G, gapT b = G := ⟨_, rfl⟩
    have hGs : G.size ≤ 7 := by rw [← hG]; cases b <;> decide
    rw [hG, hnn] at hw1 hw2 hfin
    rw [hnn] at hn
    have HF := Lib.hid hfin
    have HW := Lib.hid hw2
    have HBD := Lib.hid hB
    have HN := Lib.hid hnn
    have HLEN : n ≤ 1048576 := by omega
    clear hfin hw2 hB hnn hn
    have hS2 := fun W (hW : Tabs W) => word_Scan.calls (wideB G a0 L n ++ G) (movedB G L n) 0 0 W hW (by unfold word_Scan.f; rw [if_pos (by rw [ByteArray.size_append]; omega), HF.out])
    have hsame := sameToks_eq (movedB G L n) (by unfold movedB; rw [movedL_len, List.length_take]; omega) (n + 1) (by unfold movedB; rw [movedL_len, List.length_take]; omega)
    have HSM := Lib.hid hsame
    clear hsame
    cases b
    all_goals
      have HG := Lib.hid hG
      clear hG
      go_enter Tryd.func4, Tryd.ntmps4
      go_wp2_with (first | (go_at_call 3; (with_reducible refine (hK _ HT.out).mono ?_); rintro e1 w1 ⟨rfl, hb1⟩; have HB1 := Lib.hid hb1; clear hb1) | (go_at_call 9; (with_reducible refine (hS _ (HT.out.below HB1.out)).mono ?_); rintro e2 w2 ⟨v, rfl, hR, hb2⟩; have HR := Lib.hid hR; clear hR; obtain ⟨A, c, rfl⟩ := Kd.R_slice HR.out; have HB2 := Lib.hid (HB1.out.trans (hb2.mono HB1.out.size)); clear hb2))
      clear hK hS
      first | rw [show (⟨#[32, 9]⟩ : ByteArray) = G from HG.out] | rw [show (⟨#[35, 32, 34, 120, 92, 40, 10]⟩ : ByteArray) = G from HG.out]
      go_loopg [9, 10, 11] n (fun g v9 v10 v11 wx => ∃ (d : Nat) (vo : Value), vo = v10 ∧ v9 = .string (wideB G a0 L d) ∧ v11 = .int .i64 d ∧ d + g = n ∧ Hid (wx.ownsRow w2.heap.size 23 4 vo d (toksCells (movedB G L d))) ∧ Below w2.heap.size w2 wx)
      case atStart => exact ⟨0, _, rfl, rfl, rfl, by omega, own_nil _ _ _ _, Below.refl _ _⟩
      case round =>
        obtain ⟨d, vo, hvo, rfl, rfl, hdg, hown, hbw⟩ := hrel
        subst hvo
        have HX : Hid ((wideB G a0 L d).size ≤ (wideB G a0 L n).size) := HW.out d
        have hsz : (wideB G a0 L d).size ≤ 9000000 := Nat.le_trans HX.out hw1
        cases gk with
        | zero =>
          have hd : d = n := by omega
          subst hd
          have hdn : ¬ ((d : Int) < (L.length : Int)) := by rw [HN.out]; omega
          obtain ⟨A1, c1, rfl⟩ := own_slice hown.out
          have HRW : Hid (Kd.R k23 23 wr w2.heap.size (fun _ => True) (.slice A1 d c1) (movedB G L d)) := by
            show Kd.R _ _ _ _ _ _ _
            have hl : (movedB G L d).length = d := by
              unfold movedB
              rw [movedL_len, List.length_take, HN.out]
              omega
            exact toks_R (by rw [hl]; exact hown.out)
          have HB3 := Lib.hid (HB2.out.trans (hbw.mono HB2.out.size))
          clear hbw
          go_wp2_with fail
          have hcl := hS2 wr (HT.out.below HB3.out)
          (with_reducible refine hcl.mono ?_)
          (rintro e4 w4 ⟨v, rfl, hR4, hb4⟩; have HR4 := Lib.hid hR4; clear hR4; obtain ⟨A4, c4, rfl⟩ := Kd.R_slice HR4.out; have HRW2 := Lib.hid (Kd.R_below HRW.out hb4); have HB4 := Lib.hid (HB3.out.trans (hb4.mono HB3.out.size)); clear hb4)
          obtain ⟨q1, q2, q3⟩ := Kd.R_reads' HR4.out
          obtain ⟨q4, q5, q6⟩ := Kd.R_reads' HRW2.out
          have hst := hallmarkkit_SameTokens.calls (d + 1) A4 c4 (movedB G L d) A1 c1 (movedB G L d) true w4 q3 q2 q6 (by omega) HSM.out
          have hsv : Value.slice A1 d c1 = Value.slice A1 (movedB G L d).length c1 := by rw [← q4]
          clear q1 q2 q3 q4 q5 q6
          go_wp2_with fail
          (with_reducible refine hst.mono ?_)
          rintro e5 w5 ⟨rfl, hb5⟩
          have HB5 := Lib.hid (HB4.out.trans (hb5.mono HB4.out.size))
          clear hb5 hsv hst
          go_wp2
          go_ret
          exact ⟨rfl, HB5.out⟩
        | succ g =>
          have hlt : d < L.length := by rw [HN.out]; omega
          have hdl : ((d : Int) < (L.length : Int)) := by omega
          have hd0 : (0 : Int) ≤ (d : Int) := by omega
          obtain ⟨ad, hA, hx0, hx1, hx2, hx3⟩ := at_T23 (Kd.R_reads' HR.out).2.2 d hd0 hdl
          subst hA
          have hbd := HBD.out L[d] (List.getElem_mem hlt)
          have hwy := wideB_yes G a0 L d hlt
          have hwn := wideB_no G a0 L d hlt
          have hmy := movedB_yes G a0 L d hlt HBD.out
          have hmn := movedB_no G a0 L d hlt HBD.out
          rw [rd_toke L d hlt] at hx0 hx1 hx2 hx3
          have hml : (movedB G L d).length = d := by
            unfold movedB
            rw [movedL_len, List.length_take]
            omega
          obtain ⟨t, ht⟩ : ∃ t, L[d] = t := ⟨_, rfl⟩
          rw [ht] at hbd hwy hwn hmy hmn hx0 hx1 hx2 hx3
          clear ht hlt
          obtain ⟨k, x1, x2, tx⟩ := t
          simp only at hbd hwy hwn hmy hmn hx0 hx1 hx2 hx3
          obtain ⟨b1, b2, b3⟩ := hbd
          have y0 := tabs_cell hbw hx0
          have y1 := tabs_cell hbw hx1
          have y2 := tabs_cell hbw hx2
          have y3 := tabs_cell hbw hx3
          rw [Int.toNat_natCast] at y0 y1 y2 y3
          clear hx0 hx1 hx2 hx3
          obtain ⟨W0, hW0⟩ : ∃ x, wideB G a0 L d = x := ⟨_, rfl⟩
          obtain ⟨W1, hW1⟩ : ∃ x, wideB G a0 L (d + 1) = x := ⟨_, rfl⟩
          rw [hW0] at hwy hwn hmy hmn hsz ⊢
          rw [hW1] at hwy hwn hmy hmn
          have HW1 := Lib.hid hW1
          clear hW0 hW1 HX
          have d1 : decide (x1 < 0) = false := decide_eq_false (by omega)
          have d2 : decide (x2 < x1) = false := decide_eq_false (by omega)
          have d3 : decide ((a0.size : Int) < x2) = false := decide_eq_false (by omega)
          by_cases k8 : k = 8
          · have z1 := hwy (Or.inl k8)
            have z2 := hmy (Or.inl k8)
            have k8' : (k != 8) = false := bne_eq_false_iff_eq.2 k8
            have Z1 := Lib.hid z1
            have Z2 := Lib.hid z2
            clear hwy hwn hmy hmn z1 z2 k8
            go_wp2_with fail
            go_quiet (fail)
            go_wp2_with ((with_reducible refine gate_dst (N := 12) rfl ?_); refine box_event rfl (N := 12) rfl (cs := #[.int .i64 0, .int .i64 0, .int .i64 0, .string (⟨#[]⟩ : ByteArray)]) (t := 23) ?hr ?_; (case hr => first | (go_simp; done) | (go_simp; rfl)); intro gb hgb w6 hbox hb6; go_must (have hbw6 : Below w2.heap.size w2 w6 := ((pw_below_drewN hbw nq).trans (hb6.mono hbw.size)); have u0 := tabs_cell hb6 y0; have u1 := tabs_cell hb6 y1; have u2 := tabs_cell hb6 y2; have u3 := tabs_cell hb6 y3; have hown6 := Lib.hid (own_under (own_dr hown.out nq) hb6); have g0 : w6.cell? ⟨gb, 0, none⟩ = some (.int .i64 0) := (blk_cell hbox 0).trans rfl; have g1 : w6.cell? ⟨gb, 1, none⟩ = some (.int .i64 0) := (blk_cell hbox 1).trans rfl; have g2 : w6.cell? ⟨gb, 2, none⟩ = some (.int .i64 0) := (blk_cell hbox 2).trans rfl; have g3 : w6.cell? ⟨gb, 3, none⟩ = some (.string ⟨#[]⟩) := (blk_cell hbox 3).trans rfl; have f0 := blk_frozen hbox 0; have f1 := blk_frozen hbox 1; have f2 := blk_frozen hbox 2; have f3 := blk_frozen hbox 3; have hlt6 : gb < w6.heap.size := blk_lt hbox; have hgb' : gb = wr.heap.size := hgb; have n1 : ¬ (ad.add (d * 4)).block = gb := (by have := World.block_lt_of_cell? wr _ y0; omega); have n2 : ¬ gb = (ad.add (d * 4)).block := (fun e => n1 e.symm); have n3 : vo.ownBlock ≠ some gb := (fun e => by have := own_lt hown.out gb e; omega); have HBX := Lib.hid hbox; have hgw : w2.heap.size ≤ gb := (by have := hbw.size; omega); clear hgb hgb' y0 y1 y2 y3 hbox hb6))
            have hq0 : (0 : Int) ≤ x1 := b1
            go_quiet (fail)
            rw [Z1.out]
            have hB7 := blk_drewN (blk_set (blk_set (blk_set (blk_set (blk_set HBX.out 0 (.int .i64 k)) 1 (.int .i64 x1)) 2 (.int .i64 x2)) 3 (.string tx)) 1 (.int .i64 (W0.size : Int))) nq
            have hO7 := own_dr (own_set (own_set (own_set (own_set (own_set hown6.out n3 0 (.int .i64 k)) n3 1 (.int .i64 x1)) n3 2 (.int .i64 x2)) n3 3 (.string tx)) n3 1 (.int .i64 (W0.size : Int))) nq
            have hL7 := pw_below_drewN (((((hbw6.setCell (p := ⟨gb, 0, none⟩) hgw (.int .i64 k)).setCell (p := ⟨gb, 1, none⟩) hgw (.int .i64 x1)).setCell (p := ⟨gb, 2, none⟩) hgw (.int .i64 x2)).setCell (p := ⟨gb, 3, none⟩) hgw (.string tx)).setCell (p := ⟨gb, 1, none⟩) hgw (.int .i64 (W0.size : Int))) nq
            generalize hw7 : World.drewN (((((w6.setCell ⟨gb, 0, none⟩ (.int .i64 k)).setCell ⟨gb, 1, none⟩ (.int .i64 x1)).setCell ⟨gb, 2, none⟩ (.int .i64 x2)).setCell ⟨gb, 3, none⟩ (.string tx)).setCell ⟨gb, 1, none⟩ (.int .i64 (W0.size : Int))) nq = w7 at hB7 hO7 hL7 ⊢
            clear hw7 u0 u1 u2 u3 g0 g1 g2 g3 f0 f1 f2 f3 hlt6 n1 n2 hown6 hbw6
            have g0 : w7.cell? ⟨gb, 0, none⟩ = some (.int .i64 k) := (blk_cell hB7 0).trans rfl
            have g1 : w7.cell? ⟨gb, 1, none⟩ = some (.int .i64 (W0.size : Int)) := (blk_cell hB7 1).trans rfl
            have g2 : w7.cell? ⟨gb, 2, none⟩ = some (.int .i64 x2) := (blk_cell hB7 2).trans rfl
            have g3 : w7.cell? ⟨gb, 3, none⟩ = some (.string tx) := (blk_cell hB7 3).trans rfl
            have f2 := blk_frozen hB7 2
            have hbase7 := hL7.size
            have HO7 := Lib.hid hO7
            clear hO7 hB7
            go_wp2_with (at_builtin; refine wpList_append_own _ rfl (.tmp 105) (.tmp 107) 24 rfl w2.heap.size 23 i0 _ 4 40 Tryd.underlying24 HI.out HZ0.out HZ1.out HZ2.out rfl (by decide) vo d (toksCells (movedB G L d)) rfl ?c0 _ 1 1 [.int .i64 k, .int .i64 (W0.size : Int), .int .i64 (W1.size : Int), .string tx] rfl rfl ?c1 ?c2 ?c3 ?c4 ?c5 ?_; (case c0 => go_must (exact World.ownsRow.alloc (own_set HO7.out n3 _ _) _)); (case c1 => go_must (exact World.news_of_block (cs := #[.int .i64 k, .int .i64 (W0.size : Int), .int .i64 (W1.size : Int), .string tx]) (t := 23) (fr := (0, 0)) (by simpa using heap_alloc_new (w7.setCell ⟨gb, 2, none⟩ (.int .i64 (W1.size : Int))) (.cells #[.int .i64 k, .int .i64 (W0.size : Int), .int .i64 (W1.size : Int), .string tx] 23)))); (case c2 => simp [Value.oneCell']); (case c3 => unfold maxLen; omega); (case c4 => omega); (case c5 => simp; omega); intro v8 w8 hown8 hg8 _)
            go_roundg g
            case measure => omega
            case rel =>
              refine ⟨d + 1, v8, rfl, by rw [HW1.out], by go_num, by omega, ?_, ((hL7.setCell (p := ⟨gb, 2, none⟩) hgw _).alloc (by simp; omega) _).grown hg8 (by simp; omega) (fun k' hk' => own_base HO7.out k' hk')⟩
              show World.ownsRow _ _ _ _ _ _ _
              rw [Z2.out, toksCells_snoc]
              exact hown8
          by_cases k9 : k = 9
          · have z1 := hwy (Or.inr k9)
            have z2 := hmy (Or.inr k9)
            have k8' : (k != 8) = true := bne_iff_ne.2 k8
            have k9' : (k != 9) = false := bne_eq_false_iff_eq.2 k9
            have Z1 := Lib.hid z1
            have Z2 := Lib.hid z2
            clear hwy hwn hmy hmn z1 z2 k8 k9
            go_wp2_with fail
            go_quiet (fail)
            go_wp2_with ((with_reducible refine gate_dst (N := 12) rfl ?_); refine box_event rfl (N := 12) rfl (cs := #[.int .i64 0, .int .i64 0, .int .i64 0, .string (⟨#[]⟩ : ByteArray)]) (t := 23) ?hr ?_; (case hr => first | (go_simp; done) | (go_simp; rfl)); intro gb hgb w6 hbox hb6; go_must (have hbw6 : Below w2.heap.size w2 w6 := ((pw_below_drewN hbw nq).trans (hb6.mono hbw.size)); have u0 := tabs_cell hb6 y0; have u1 := tabs_cell hb6 y1; have u2 := tabs_cell hb6 y2; have u3 := tabs_cell hb6 y3; have hown6 := Lib.hid (own_under (own_dr hown.out nq) hb6); have g0 : w6.cell? ⟨gb, 0, none⟩ = some (.int .i64 0) := (blk_cell hbox 0).trans rfl; have g1 : w6.cell? ⟨gb, 1, none⟩ = some (.int .i64 0) := (blk_cell hbox 1).trans rfl; have g2 : w6.cell? ⟨gb, 2, none⟩ = some (.int .i64 0) := (blk_cell hbox 2).trans rfl; have g3 : w6.cell? ⟨gb, 3, none⟩ = some (.string ⟨#[]⟩) := (blk_cell hbox 3).trans rfl; have f0 := blk_frozen hbox 0; have f1 := blk_frozen hbox 1; have f2 := blk_frozen hbox 2; have f3 := blk_frozen hbox 3; have hlt6 : gb < w6.heap.size := blk_lt hbox; have hgb' : gb = wr.heap.size := hgb; have n1 : ¬ (ad.add (d * 4)).block = gb := (by have := World.block_lt_of_cell? wr _ y0; omega); have n2 : ¬ gb = (ad.add (d * 4)).block := (fun e => n1 e.symm); have n3 : vo.ownBlock ≠ some gb := (fun e => by have := own_lt hown.out gb e; omega); have HBX := Lib.hid hbox; have hgw : w2.heap.size ≤ gb := (by have := hbw.size; omega); clear hgb hgb' y0 y1 y2 y3 hbox hb6))
            have hq0 : (0 : Int) ≤ x1 := b1
            go_quiet (fail)
            rw [Z1.out]
            have hB7 := blk_drewN (blk_set (blk_set (blk_set (blk_set (blk_set HBX.out 0 (.int .i64 k)) 1 (.int .i64 x1)) 2 (.int .i64 x2)) 3 (.string tx)) 1 (.int .i64 (W0.size : Int))) nq
            have hO7 := own_dr (own_set (own_set (own_set (own_set (own_set hown6.out n3 0 (.int .i64 k)) n3 1 (.int .i64 x1)) n3 2 (.int .i64 x2)) n3 3 (.string tx)) n3 1 (.int .i64 (W0.size : Int))) nq
            have hL7 := pw_below_drewN (((((hbw6.setCell (p := ⟨gb, 0, none⟩) hgw (.int .i64 k)).setCell (p := ⟨gb, 1, none⟩) hgw (.int .i64 x1)).setCell (p := ⟨gb, 2, none⟩) hgw (.int .i64 x2)).setCell (p := ⟨gb, 3, none⟩) hgw (.string tx)).setCell (p := ⟨gb, 1, none⟩) hgw (.int .i64 (W0.size : Int))) nq
            generalize hw7 : World.drewN (((((w6.setCell ⟨gb, 0, none⟩ (.int .i64 k)).setCell ⟨gb, 1, none⟩ (.int .i64 x1)).setCell ⟨gb, 2, none⟩ (.int .i64 x2)).setCell ⟨gb, 3, none⟩ (.string tx)).setCell ⟨gb, 1, none⟩ (.int .i64 (W0.size : Int))) nq = w7 at hB7 hO7 hL7 ⊢
            clear hw7 u0 u1 u2 u3 g0 g1 g2 g3 f0 f1 f2 f3 hlt6 n1 n2 hown6 hbw6
            have g0 : w7.cell? ⟨gb, 0, none⟩ = some (.int .i64 k) := (blk_cell hB7 0).trans rfl
            have g1 : w7.cell? ⟨gb, 1, none⟩ = some (.int .i64 (W0.size : Int)) := (blk_cell hB7 1).trans rfl
            have g2 : w7.cell? ⟨gb, 2, none⟩ = some (.int .i64 x2) := (blk_cell hB7 2).trans rfl
            have g3 : w7.cell? ⟨gb, 3, none⟩ = some (.string tx) := (blk_cell hB7 3).trans rfl
            have f2 := blk_frozen hB7 2
            have hbase7 := hL7.size
            have HO7 := Lib.hid hO7
            clear hO7 hB7
            go_wp2_with (at_builtin; refine wpList_append_own _ rfl (.tmp 105) (.tmp 107) 24 rfl w2.heap.size 23 i0 _ 4 40 Tryd.underlying24 HI.out HZ0.out HZ1.out HZ2.out rfl (by decide) vo d (toksCells (movedB G L d)) rfl ?c0 _ 1 1 [.int .i64 k, .int .i64 (W0.size : Int), .int .i64 (W1.size : Int), .string tx] rfl rfl ?c1 ?c2 ?c3 ?c4 ?c5 ?_; (case c0 => go_must (exact World.ownsRow.alloc (own_set HO7.out n3 _ _) _)); (case c1 => go_must (exact World.news_of_block (cs := #[.int .i64 k, .int .i64 (W0.size : Int), .int .i64 (W1.size : Int), .string tx]) (t := 23) (fr := (0, 0)) (by simpa using heap_alloc_new (w7.setCell ⟨gb, 2, none⟩ (.int .i64 (W1.size : Int))) (.cells #[.int .i64 k, .int .i64 (W0.size : Int), .int .i64 (W1.size : Int), .string tx] 23)))); (case c2 => simp [Value.oneCell']); (case c3 => unfold maxLen; omega); (case c4 => omega); (case c5 => simp; omega); intro v8 w8 hown8 hg8 _)
            go_roundg g
            case measure => omega
            case rel =>
              refine ⟨d + 1, v8, rfl, by rw [HW1.out], by go_num, by omega, ?_, ((hL7.setCell (p := ⟨gb, 2, none⟩) hgw _).alloc (by simp; omega) _).grown hg8 (by simp; omega) (fun k' hk' => own_base HO7.out k' hk')⟩
              show World.ownsRow _ _ _ _ _ _ _
              rw [Z2.out, toksCells_snoc]
              exact hown8
          · have z1 := hwn (by omega)
            have z2 := hmn (by omega)
            have k8' : (k != 8) = true := bne_iff_ne.2 k8
            have k9' : (k != 9) = true := bne_iff_ne.2 k9
            obtain ⟨WG, hWG⟩ : ∃ x, W0 ++ G = x := ⟨_, rfl⟩
            have hcat : WG.size ≤ 9000007 := by rw [← hWG, ByteArray.size_append]; omega
            rw [hWG] at z1 z2
            have HWG := Lib.hid hWG
            have Z1 := Lib.hid z1
            have Z2 := Lib.hid z2
            clear hwy hwn hmy hmn z1 z2 k8 k9 hWG
            go_wp2_with fail
            go_quiet (fail)
            go_upto_region 18 with (fail)
            rw [HWG.out]
            go_wp2_with ((with_reducible refine gate_dst (N := 12) rfl ?_); refine box_event rfl (N := 12) rfl (cs := #[.int .i64 0, .int .i64 0, .int .i64 0, .string (⟨#[]⟩ : ByteArray)]) (t := 23) ?hr ?_; (case hr => first | (go_simp; done) | (go_simp; rfl)); intro gb hgb w6 hbox hb6; go_must (have hbw6 : Below w2.heap.size w2 w6 := ((pw_below_drewN hbw nq).trans (hb6.mono hbw.size)); have u0 := tabs_cell hb6 y0; have u1 := tabs_cell hb6 y1; have u2 := tabs_cell hb6 y2; have u3 := tabs_cell hb6 y3; have hown6 := Lib.hid (own_under (own_dr hown.out nq) hb6); have g0 : w6.cell? ⟨gb, 0, none⟩ = some (.int .i64 0) := (blk_cell hbox 0).trans rfl; have g1 : w6.cell? ⟨gb, 1, none⟩ = some (.int .i64 0) := (blk_cell hbox 1).trans rfl; have g2 : w6.cell? ⟨gb, 2, none⟩ = some (.int .i64 0) := (blk_cell hbox 2).trans rfl; have g3 : w6.cell? ⟨gb, 3, none⟩ = some (.string ⟨#[]⟩) := (blk_cell hbox 3).trans rfl; have f0 := blk_frozen hbox 0; have f1 := blk_frozen hbox 1; have f2 := blk_frozen hbox 2; have f3 := blk_frozen hbox 3; have hlt6 : gb < w6.heap.size := blk_lt hbox; have hgb' : gb = wr.heap.size := hgb; have n1 : ¬ (ad.add (d * 4)).block = gb := (by have := World.block_lt_of_cell? wr _ y0; omega); have n2 : ¬ gb = (ad.add (d * 4)).block := (fun e => n1 e.symm); have n3 : vo.ownBlock ≠ some gb := (fun e => by have := own_lt hown.out gb e; omega); have HBX := Lib.hid hbox; have hgw : w2.heap.size ≤ gb := (by have := hbw.size; omega); clear hgb hgb' y0 y1 y2 y3 hbox hb6))
            have hq0 : (0 : Int) ≤ x1 := b1
            go_quiet (fail)
            rw [Z1.out]
            have hB7 := blk_drewN (blk_set (blk_set (blk_set (blk_set (blk_set HBX.out 0 (.int .i64 k)) 1 (.int .i64 x1)) 2 (.int .i64 x2)) 3 (.string tx)) 1 (.int .i64 (WG.size : Int))) nq
            have hO7 := own_dr (own_set (own_set (own_set (own_set (own_set hown6.out n3 0 (.int .i64 k)) n3 1 (.int .i64 x1)) n3 2 (.int .i64 x2)) n3 3 (.string tx)) n3 1 (.int .i64 (WG.size : Int))) nq
            have hL7 := pw_below_drewN (((((hbw6.setCell (p := ⟨gb, 0, none⟩) hgw (.int .i64 k)).setCell (p := ⟨gb, 1, none⟩) hgw (.int .i64 x1)).setCell (p := ⟨gb, 2, none⟩) hgw (.int .i64 x2)).setCell (p := ⟨gb, 3, none⟩) hgw (.string tx)).setCell (p := ⟨gb, 1, none⟩) hgw (.int .i64 (WG.size : Int))) nq
            generalize hw7 : World.drewN (((((w6.setCell ⟨gb, 0, none⟩ (.int .i64 k)).setCell ⟨gb, 1, none⟩ (.int .i64 x1)).setCell ⟨gb, 2, none⟩ (.int .i64 x2)).setCell ⟨gb, 3, none⟩ (.string tx)).setCell ⟨gb, 1, none⟩ (.int .i64 (WG.size : Int))) nq = w7 at hB7 hO7 hL7 ⊢
            clear hw7 u0 u1 u2 u3 g0 g1 g2 g3 f0 f1 f2 f3 hlt6 n1 n2 hown6 hbw6
            have g0 : w7.cell? ⟨gb, 0, none⟩ = some (.int .i64 k) := (blk_cell hB7 0).trans rfl
            have g1 : w7.cell? ⟨gb, 1, none⟩ = some (.int .i64 (WG.size : Int)) := (blk_cell hB7 1).trans rfl
            have g2 : w7.cell? ⟨gb, 2, none⟩ = some (.int .i64 x2) := (blk_cell hB7 2).trans rfl
            have g3 : w7.cell? ⟨gb, 3, none⟩ = some (.string tx) := (blk_cell hB7 3).trans rfl
            have f2 := blk_frozen hB7 2
            have hbase7 := hL7.size
            have HO7 := Lib.hid hO7
            clear hO7 hB7
            go_wp2_with (at_builtin; refine wpList_append_own _ rfl (.tmp 105) (.tmp 107) 24 rfl w2.heap.size 23 i0 _ 4 40 Tryd.underlying24 HI.out HZ0.out HZ1.out HZ2.out rfl (by decide) vo d (toksCells (movedB G L d)) rfl ?c0 _ 1 1 [.int .i64 k, .int .i64 (WG.size : Int), .int .i64 (W1.size : Int), .string tx] rfl rfl ?c1 ?c2 ?c3 ?c4 ?c5 ?_; (case c0 => go_must (exact World.ownsRow.alloc (own_set HO7.out n3 _ _) _)); (case c1 => go_must (exact World.news_of_block (cs := #[.int .i64 k, .int .i64 (WG.size : Int), .int .i64 (W1.size : Int), .string tx]) (t := 23) (fr := (0, 0)) (by simpa using heap_alloc_new (w7.setCell ⟨gb, 2, none⟩ (.int .i64 (W1.size : Int))) (.cells #[.int .i64 k, .int .i64 (WG.size : Int), .int .i64 (W1.size : Int), .string tx] 23)))); (case c2 => simp [Value.oneCell']); (case c3 => unfold maxLen; omega); (case c4 => omega); (case c5 => simp; omega); intro v8 w8 hown8 hg8 _)
            go_roundg g
            case measure => omega
            case rel =>
              refine ⟨d + 1, v8, rfl, by rw [HW1.out], by go_num, by omega, ?_, ((hL7.setCell (p := ⟨gb, 2, none⟩) hgw _).alloc (by simp; omega) _).grown hg8 (by simp; omega) (fun k' hk' => own_base HO7.out k' hk')⟩
              show World.ownsRow _ _ _ _ _ _ _
              rw [Z2.out, toksCells_snoc]
              exact hown8

end Go.Proofs.YtccabnimiacioaaDoor.U
