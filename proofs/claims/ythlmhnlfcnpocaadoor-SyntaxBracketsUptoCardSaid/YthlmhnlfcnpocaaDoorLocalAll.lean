/- Gaps put in ahead of tokens move places alone: plain Lean. -/
import Derived.Test.YthlmhnlfcnpocaaDoorScanC
import Derived.Test.YthlmhnlfcnpocaaDoorUtf2
namespace Go.Proofs.YthlmhnlfcnpocaaDoor.U
open Go.RowKit Go.Proofs.YthlmhnlfcnpocaaDoorW.PrintWords
set_option linter.unusedSimpArgs false
set_option linter.unusedVariables false

/-- two texts have the same bytes from two places on -/
def Agree (s S : ByteArray) (i j n : Nat) : Prop := i + n ≤ s.size ∧ j + n ≤ S.size ∧ ∀ k, k < n → bt s ((i + k : Nat) : Int) = bt S ((j + k : Nat) : Int)
theorem Agree.sub {s S : ByteArray} {i j n : Nat} (h : Agree s S i j n) (k m : Nat) (hk : k + m ≤ n) : Agree s S (i + k) (j + k) m := by
  obtain ⟨h1, h2, h3⟩ := h
  refine ⟨by omega, by omega, fun q hq => ?_⟩
  have := h3 (k + q) (by omega)
  rw [show i + k + q = i + (k + q) by omega, show j + k + q = j + (k + q) by omega]
  exact this
theorem Agree.head {s S : ByteArray} {i j n : Nat} (h : Agree s S i j n) (hn : 0 < n) : bt s (i : Int) = bt S (j : Int) := h.2.2 0 hn
theorem Agree.at {s S : ByteArray} {i j n : Nat} (h : Agree s S i j n) (k : Nat) (hk : k < n) : bt s ((i + k : Nat) : Int) = bt S ((j + k : Nat) : Int) := h.2.2 k hk

theorem byte_eq (s S : ByteArray) (i j : Nat) (hi : i < s.size) (hj : j < S.size) (h : bt s (i : Int) = bt S (j : Int)) : s.data.toList[i]? = S.data.toList[j]? := by
  have h1 : i < s.data.toList.length := by rw [← Lib.size_eq]; exact hi
  have h2 : j < S.data.toList.length := by rw [← Lib.size_eq]; exact hj
  rw [← getD_bt s i hi, ← getD_bt S j hj, List.getD_eq_getElem?_getD, List.getD_eq_getElem?_getD, List.getElem?_eq_getElem h1, List.getElem?_eq_getElem h2] at h
  rw [List.getElem?_eq_getElem h1, List.getElem?_eq_getElem h2]
  simp only [Option.getD_some] at h
  congr 1
  apply UInt8.toNat_inj.1
  omega
theorem Agree.take {s S : ByteArray} {i j n : Nat} (h : Agree s S i j n) : (s.data.toList.drop i).take n = (S.data.toList.drop j).take n := by
  obtain ⟨h1, h2, h3⟩ := h
  apply List.ext_getElem?
  intro k
  by_cases hk : k < n
  · rw [List.getElem?_take_of_lt hk, List.getElem?_take_of_lt hk, List.getElem?_drop, List.getElem?_drop]
    exact byte_eq s S (i + k) (j + k) (by omega) (by omega) (h3 k hk)
  · rw [List.getElem?_eq_none (by rw [List.length_take]; omega), List.getElem?_eq_none (by rw [List.length_take]; omega)]
theorem Agree.extract {s S : ByteArray} {i j n : Nat} (h : Agree s S i j n) (m : Nat) (hm : m ≤ n) : s.extract i (i + m) = S.extract j (j + m) := by
  apply ByteArray.ext
  apply Array.ext'
  have := (h.sub 0 m (by omega)).take
  rw [Lib.extract_data, Lib.extract_data, show i + m - i = m by omega, show j + m - j = m by omega]
  exact this

/-! runs -/
theorem runEnd_unique (p : Int → Bool) (s : ByteArray) : ∀ (f i e : Nat), i ≤ e → e ≤ s.size → s.size - i ≤ f → (∀ k, i ≤ k → k < e → p (bt s (k : Int)) = true) → (e < s.size → p (bt s (e : Int)) = false) → runEnd p s f i = e
  | 0, i, e, h1, h2, h3, h4, h5 => by
    show i = e
    omega
  | f + 1, i, e, h1, h2, h3, h4, h5 => by
    rw [runEnd]
    by_cases hi : i < s.size
    · rw [if_pos hi]
      by_cases he : i = e
      · subst he
        rw [h5 hi, if_neg (by decide)]
      · rw [h4 i (Nat.le_refl _) (by omega), if_pos rfl]
        exact runEnd_unique p s f (i + 1) e (by omega) h2 (by omega) (fun k a b => h4 k (by omega) b) h5
    · rw [if_neg hi]
      omega
theorem runEnd_spec (p : Int → Bool) (s : ByteArray) : ∀ (f i : Nat), i ≤ s.size → s.size - i ≤ f → (∀ k, i ≤ k → k < runEnd p s f i → p (bt s (k : Int)) = true) ∧ (runEnd p s f i < s.size → p (bt s (runEnd p s f i : Nat)) = false)
  | 0, i, h1, h2 => by
    have e : runEnd p s 0 i = i := rfl
    rw [e]
    exact ⟨fun k a b => by omega, fun h => by omega⟩
  | f + 1, i, h1, h2 => by
    rw [runEnd]
    by_cases hi : i < s.size
    · rw [if_pos hi]
      cases hp : p (bt s (i : Int))
      · rw [if_neg (by decide)]
        exact ⟨fun k a b => by omega, fun _ => hp⟩
      · rw [if_pos rfl]
        have ih := runEnd_spec p s f (i + 1) (by omega) (by omega)
        refine ⟨fun k a b => ?_, ih.2⟩
        by_cases hk : k = i
        · subst hk
          exact hp
        · exact ih.1 k (by omega) b
    · rw [if_neg hi]
      exact ⟨fun k a b => by omega, fun h => by omega⟩
/-! escapes and runes -/
theorem num_local (t T : ByteArray) (h : ∀ k, k < 6 → bt t (k : Nat) = bt T (k : Nat)) (ht : 6 ≤ t.size) (hT : 6 ≤ T.size) : numberedZ T = numberedZ t := by
  have e0 : bt t 0 = bt T 0 := h 0 (by omega)
  have e1 : bt t 1 = bt T 1 := h 1 (by omega)
  have e2 : bt t 2 = bt T 2 := h 2 (by omega)
  have e3 : bt t 3 = bt T 3 := h 3 (by omega)
  have e4 : bt t 4 = bt T 4 := h 4 (by omega)
  have e5 : bt t 5 = bt T 5 := h 5 (by omega)
  have ea : accZ T 4 = accZ t 4 := by
    show accZ T 3 * 16 + digitZ (bt T ((2 + 3 : Nat) : Int)) = accZ t 3 * 16 + digitZ (bt t ((2 + 3 : Nat) : Int))
    show ((((0 * 16 + digitZ (bt T ((2 + 0 : Nat) : Int))) * 16 + digitZ (bt T ((2 + 1 : Nat) : Int))) * 16 + digitZ (bt T ((2 + 2 : Nat) : Int))) * 16 + digitZ (bt T ((2 + 3 : Nat) : Int))) = ((((0 * 16 + digitZ (bt t ((2 + 0 : Nat) : Int))) * 16 + digitZ (bt t ((2 + 1 : Nat) : Int))) * 16 + digitZ (bt t ((2 + 2 : Nat) : Int))) * 16 + digitZ (bt t ((2 + 3 : Nat) : Int)))
    rw [h (2 + 0) (by omega), h (2 + 1) (by omega), h (2 + 2) (by omega), h (2 + 3) (by omega)]
  have en : numZ T = numZ t := by
    unfold numZ
    rw [e2, e3, e4, e5, ea]
  unfold numberedZ
  rw [e0, e1, en]
  by_cases c : bt T 0 = 92 ∧ bt T 1 = 117
  · rw [if_pos ⟨hT, c⟩, if_pos ⟨ht, c⟩]
  · rw [if_neg (fun g => c g.2), if_neg (fun g => c g.2)]
theorem bt_ext (s : ByteArray) (p j : Nat) (h : p + j < s.size) : bt (s.extract p s.size) (j : Int) = bt s ((p + j : Nat) : Int) := by
  have hl : j < (s.extract p s.size).size := by rw [ByteArray.size_extract]; omega
  have hd : (s.extract p s.size).data.toList = s.data.toList.drop p := by rw [Lib.extract_data, List.take_of_length_le (by rw [List.length_drop, ← Lib.size_eq]; omega)]
  rw [← getD_bt s (p + j) h, ← getD_bt (s.extract p s.size) j hl, hd]
  simp [List.getD_eq_getElem?_getD, List.getElem?_drop]
theorem esc_local (t T : ByteArray) (n : Nat) (h : ∀ k, k < n → bt t (k : Nat) = bt T (k : Nat)) (hn : n ≤ t.size) (hN : n ≤ T.size) (he : (escT t).2.2 = 0) (hc : (escT t).2.1 ≤ n) : escT T = escT t := by
  have hr := escT_range t he
  have b0 : bt t 0 = bt T 0 := h 0 (by omega)
  have b1 : bt t 1 = bt T 1 := h 1 (by omega)
  unfold escT escV at he hc ⊢
  by_cases g : numberedZ t < 0
  · rw [if_pos g] at he hc ⊢
    by_cases g2 : 2 ≤ t.size ∧ bt t 0 = 92 ∧ 0 ≤ shortZ (bt t 1)
    · rw [if_pos g2] at he hc ⊢
      have h117 : bt t 1 ≠ 117 := by
        intro e
        rw [e] at g2
        have := g2.2.2
        revert this
        decide
      have hT : numberedZ T = -1 := by
        unfold numberedZ
        rw [if_neg (by rw [← b1]; exact fun g => h117 g.2.2)]
      simp only at hc
      rw [hT, if_pos (by decide), if_pos (by rw [← b0, ← b1]; exact ⟨by omega, g2.2⟩), b1]
    · rw [if_neg g2] at he
      simp at he
  · rw [if_neg g] at he hc ⊢
    have h6 := (numberedZ_range t).2.2 (by omega)
    by_cases g1 : 56320 ≤ numberedZ t ∧ numberedZ t ≤ 57343
    · rw [if_pos g1] at he
      simp at he
    · rw [if_neg g1] at he hc ⊢
      by_cases g3 : ¬ (55296 ≤ numberedZ t ∧ numberedZ t ≤ 56319)
      · rw [if_pos g3] at he hc ⊢
        simp only at hc
        have e := num_local t T (fun k hk => h k (by omega)) h6 (by omega)
        rw [e, if_neg g, if_neg g1, if_pos g3]
      · rw [if_neg g3] at he hc ⊢
        by_cases g4 : 56320 ≤ numberedZ (t.extract 6 t.size) ∧ numberedZ (t.extract 6 t.size) ≤ 57343
        · rw [if_pos g4] at he hc ⊢
          simp only at hc
          have e := num_local t T (fun k hk => h k (by omega)) h6 (by omega)
          have h12 := (numberedZ_range (t.extract 6 t.size)).2.2 (by omega)
          have e2 := num_local (t.extract 6 t.size) (T.extract 6 T.size) (fun k hk => by rw [bt_ext t 6 k (by omega), bt_ext T 6 k (by omega)]; exact h (6 + k) (by omega)) h12 (by rw [ByteArray.size_extract]; omega)
          rw [e, e2, if_neg g, if_neg g1, if_neg g3, if_pos g4]
        · rw [if_neg g4] at he
          simp at he
theorem decodeN_more (n N b0 b1 b2 b3 c1 c2 c3 : Nat) (hn : n ≤ N) (e1 : 1 < n → c1 = b1) (e2 : 2 < n → c2 = b2) (e3 : 3 < n → c3 = b3) (hw : ¬ ((Lib.decodeN n b0 c1 c2 c3).1 = 65533 ∧ (Lib.decodeN n b0 c1 c2 c3).2 = 1)) :
    Lib.decodeN N b0 b1 b2 b3 = Lib.decodeN n b0 c1 c2 c3 := by
  rcases Lib.decodeN_shape n b0 c1 c2 c3 with ⟨a0, e⟩ | ⟨a0, a1, a2, a3, e⟩ | ⟨a0, a1, a2, a3, a4, a5, e⟩ | ⟨a0, a1, a2, a3, a4, a5, a6, e⟩ | e
  · rw [e, Utf.decodeN_1 _ _ _ _ _ a0]
  · obtain rfl := e1 (by omega)
    rw [e]
    exact Utf.decodeN_2 _ _ _ _ _ a0 (by omega) a2 a3
  · obtain rfl := e1 (by omega)
    obtain rfl := e2 (by omega)
    rw [e]
    exact Utf.decodeN_3 _ _ _ _ _ a0 (by omega) a2 a3 a4 a5
  · obtain rfl := e1 (by omega)
    obtain rfl := e2 (by omega)
    obtain rfl := e3 (by omega)
    rw [e]
    exact Utf.decodeN_4 _ _ _ _ _ a0 (by omega) a2 a3 a4 a5 a6
  · rw [e] at hw
    simp at hw
theorem decode_local (s S : ByteArray) (p q n : Nat) (h : Agree s S p q n) (hn : 0 < n) (hw : (Utf8.decode s p).2 ≤ n) (hne : ¬ ((Utf8.decode s p).1 = 65533 ∧ (Utf8.decode s p).2 = 1)) : Utf8.decode S q = Utf8.decode s p := by
  have h1 := h.1
  have h2 := h.2.1
  have ht := h.take
  rw [← Lib.decodeL_drop] at hw hne ⊢
  rw [← Lib.decodeL_drop]
  have l1 : s.data.toList.drop p ≠ [] := Utf.drop_ne s p (by omega)
  have l2 : S.data.toList.drop q ≠ [] := Utf.drop_ne S q (by omega)
  have e := Utf.decodeL_take _ n l1 hw
  rw [ht] at e
  rw [← e] at hne ⊢
  have len : (S.data.toList.drop q).length = S.size - q := by rw [List.length_drop, ← Lib.size_eq]
  generalize S.data.toList.drop q = l at *
  rw [Lib.decodeL_N (l.take n)] at hne ⊢
  rw [Lib.decodeL_N l]
  have h0 : (l.take n).getD 0 0 = l.getD 0 0 := Utf.getD_take l n 0 (by omega)
  rw [h0, List.length_take] at hne ⊢
  refine decodeN_more _ _ _ _ _ _ _ _ _ (by omega) (fun g => ?_) (fun g => ?_) (fun g => ?_) hne
  · rw [Utf.getD_take l n 1 (by omega)]
  · rw [Utf.getD_take l n 2 (by omega)]
  · rw [Utf.getD_take l n 3 (by omega)]

/-! pieces of texts -/
theorem pieceZ_step (s : ByteArray) (f i : Nat) (acc : List UInt8) : pieceZ s (f + 1) i acc =
    (if i < s.size then
      if bt s (i : Int) = 34 then (0, i + 1, true, acc)
      else if bt s (i : Int) = 92 ∧ (i + 1 < s.size ∧ bt s ((i + 1 : Nat) : Int) = 40) then (0, i + 2, false, acc)
      else if bt s (i : Int) = 92 then
        if (escT (s.extract i s.size)).2.2 = 0 then pieceZ s f (i + (escT (s.extract i s.size)).2.1.toNat) (acc ++ Lib.encodeRune (escT (s.extract i s.size)).1)
        else ((escT (s.extract i s.size)).2.2, i, false, [])
      else if bt s (i : Int) < 32 then (22, i, false, [])
      else if (Utf8.decode s i).1 = 65533 ∧ (Utf8.decode s i).2 = 1 then (20, i, false, [])
      else pieceZ s f (i + (Utf8.decode s i).2) (acc ++ Lib.encodeRune ((Utf8.decode s i).1 : Int))
    else (21, s.size, false, [])) := by rw [pieceZ]
theorem piece_local (s S : ByteArray) (hs : s.size ≤ 1073741824) : ∀ (f p : Nat) (acc : List UInt8) (q g n : Nat), (pieceZ s f p acc).1 = 0 → Agree s S p q n → (pieceZ s f p acc).2.1 = p + n → S.size < q + g →
    pieceZ S g q acc = (0, q + n, (pieceZ s f p acc).2.2.1, (pieceZ s f p acc).2.2.2)
  | 0, p, acc, q, g, n, h0, hA, hp, hg => by
    unfold pieceZ at h0
    simp at h0
  | f + 1, p, acc, q, g, n, h0, hA, hp, hg => by
    have hA1 := hA.1
    have hA2 := hA.2.1
    obtain ⟨g, rfl⟩ : ∃ m, g = m + 1 := ⟨g - 1, by omega⟩
    rw [pieceZ_step] at h0 hp ⊢
    rw [pieceZ_step s]
    by_cases c0 : p < s.size
    · rw [if_pos c0] at h0 hp ⊢
      by_cases c1 : bt s (p : Int) = 34
      · rw [if_pos c1] at hp ⊢
        simp only at hp
        rw [if_pos (by omega), ← hA.head (by omega), if_pos c1]
        show _ = ((0 : Int), q + n, true, acc)
        rw [show n = 1 by omega]
      · rw [if_neg c1] at h0 hp ⊢
        by_cases c2 : bt s (p : Int) = 92 ∧ (p + 1 < s.size ∧ bt s ((p + 1 : Nat) : Int) = 40)
        · rw [if_pos c2] at hp ⊢
          simp only at hp
          have hn : n = 2 := by omega
          subst hn
          rw [if_pos (by omega), ← hA.head (by omega), if_neg c1, ← hA.at 1 (by omega), if_pos ⟨c2.1, by omega, c2.2.2⟩]
        · rw [if_neg c2] at h0 hp ⊢
          by_cases c3 : bt s (p : Int) = 92
          · rw [if_pos c3] at h0 hp ⊢
            by_cases c4 : (escT (s.extract p s.size)).2.2 = 0
            · rw [if_pos c4] at h0 hp ⊢
              have hr := escT_range _ c4
              have hsz : (s.extract p s.size).size = s.size - p := by rw [ByteArray.size_extract]; omega
              have hSz : (S.extract q S.size).size = S.size - q := by rw [ByteArray.size_extract]; omega
              rw [hsz] at hr
              have hrg := pieceZ_range s hs f _ _ (by omega) h0
              rw [hp] at hrg
              have he : escT (S.extract q S.size) = escT (s.extract p s.size) := by
                refine esc_local _ _ n (fun k hk => ?_) (by omega) (by omega) c4 (by omega)
                rw [bt_ext s p k (by omega), bt_ext S q k (by omega)]
                exact hA.at k hk
              obtain ⟨m, hm⟩ : ∃ m, (escT (s.extract p s.size)).2.1.toNat = m := ⟨_, rfl⟩
              have hb1 := hA.at 1 (by omega)
              have c2' : ¬ (bt s (p : Int) = 92 ∧ (q + 1 < S.size ∧ bt S ((q + 1 : Nat) : Int) = 40)) := by
                rintro ⟨_, _, z⟩
                rw [← hb1] at z
                exact c2 ⟨c3, by omega, z⟩
              rw [if_pos (by omega), ← hA.head (by omega), if_neg c1, if_neg c2', if_pos c3, he, if_pos c4]
              rw [hm] at h0 hp hrg ⊢
              have hmm : 2 ≤ m := by omega
              have ih := piece_local s S hs f (p + m) _ (q + m) g (n - m) h0 (hA.sub m (n - m) (by omega)) (by rw [hp]; omega) (by omega)
              rw [ih, show q + m + (n - m) = q + n by omega]
            · rw [if_neg c4] at h0
              exact absurd h0 c4
          · rw [if_neg c3] at h0 hp ⊢
            by_cases c4 : bt s (p : Int) < 32
            · rw [if_pos c4] at h0
              simp at h0
            · rw [if_neg c4] at h0 hp ⊢
              by_cases c5 : (Utf8.decode s p).1 = 65533 ∧ (Utf8.decode s p).2 = 1
              · rw [if_pos c5] at h0
                simp at h0
              · rw [if_neg c5] at h0 hp ⊢
                have hw := Utf.at_width s p c0
                have hrg := pieceZ_range s hs f _ _ hw.2 h0
                rw [hp] at hrg
                have hd := decode_local s S p q n hA (by omega) (by omega) c5
                rw [if_pos (by omega), ← hA.head (by omega), if_neg c1, if_neg (fun z => c3 z.1), if_neg c3, if_neg c4, hd, if_neg c5]
                obtain ⟨m, hm⟩ : ∃ m, (Utf8.decode s p).2 = m := ⟨_, rfl⟩
                rw [hm] at h0 hp hrg hw ⊢
                have ih := piece_local s S hs f (p + m) _ (q + m) g (n - m) h0 (hA.sub m (n - m) (by omega)) (by rw [hp]; omega) (by omega)
                rw [ih, show q + m + (n - m) = q + n by omega]
    · rw [if_neg c0] at h0
      simp at h0

end Go.Proofs.YthlmhnlfcnpocaaDoor.U

namespace Go.Proofs.YthlmhnlfcnpocaaDoor.U
open Go.RowKit Go.Proofs.YthlmhnlfcnpocaaDoorW.PrintWords
set_option linter.unusedSimpArgs false
set_option linter.unusedVariables false

/-- bytes that go on with no token -/
def Stop (c : Int) : Prop := c = 32 ∨ c = 9 ∨ c = 10 ∨ c = 13 ∨ c = 35 ∨ c = 41
theorem Stop.name {c : Int} (h : Stop c) : inNameB c = false := by
  rcases h with rfl | rfl | rfl | rfl | rfl | rfl <;> decide
theorem Stop.numeral {c : Int} (h : Stop c) : numeralB c = false := by
  rcases h with rfl | rfl | rfl | rfl | rfl | rfl <;> decide
theorem Stop.letter {c : Int} (h : Stop c) : letterB c = false := by
  rcases h with rfl | rfl | rfl | rfl | rfl | rfl <;> decide

theorem index_mem : ∀ (l : List UInt8) (c : UInt8), 0 ≤ Lib.indexByte l c → c ∈ l
  | [], c, h => by
    unfold Lib.indexByte at h
    omega
  | b :: l, c, h => by
    unfold Lib.indexByte at h
    by_cases e : b = c
    · subst e
      exact List.mem_cons_self
    · rw [if_neg (by simpa using e)] at h
      by_cases g : (Lib.indexByte l c == -1) = true
      · rw [if_pos g] at h
        omega
      · rw [if_neg g] at h
        refine List.mem_cons_of_mem _ (index_mem l c ?_)
        have : Lib.indexByte l c ≠ -1 := by simpa using g
        have hm := index_low l c
        omega
where index_low : ∀ (l : List UInt8) (c : UInt8), -1 ≤ Lib.indexByte l c
  | [], c => by
    unfold Lib.indexByte
    omega
  | b :: l, c => by
    have := index_low l c
    unfold Lib.indexByte
    split
    · omega
    · split
      · omega
      · omega

theorem bt_range (s : ByteArray) (i : Int) : 0 ≤ bt s i ∧ bt s i < 256 := by
  unfold bt
  split
  · have := UInt8.toNat_lt (s[i.toNat])
    omega
  · omega

/-- a mark's byte and a byte that stops are no mark of two -/
theorem no_two : ∀ b ∈ onesT.data.toList, ∀ st ∈ [(32 : UInt8), 9, 10, 13, 35, 41], Lib.contains twosT.data.toList [32, b, st, 32] = false := by decide +kernel
theorem no_41 : ∀ c : UInt8, Lib.contains twosT.data.toList [32, 41, c, 32] = false := by
  intro c
  have : ∀ n : Fin 256, Lib.contains twosT.data.toList [32, 41, UInt8.ofNat n.val, 32] = false := by decide +kernel
  have h := this ⟨c.toNat, UInt8.toNat_lt c⟩
  simpa using h
theorem mk1_mem (c : Int) (h : mk1 c = true) : c.toNat.toUInt8 ∈ onesT.data.toList := by
  unfold mk1 at h
  exact index_mem _ _ (of_decide_eq_true h)
theorem list2 (l : List UInt8) (h : 1 < l.length) : l.take 2 = [l[0], l[1]] := by
  match l, h with
  | a :: b :: r, _ => rfl
theorem two_eq (t : ByteArray) (h : 1 < t.size) : ((((⟨#[32]⟩ : ByteArray) ++ t.extract 0 2) ++ (⟨#[32]⟩ : ByteArray))).data.toList = [32, (bt t 0).toNat.toUInt8, (bt t 1).toNat.toUInt8, 32] := by
  have hl : 1 < t.data.toList.length := by rw [← Lib.size_eq]; exact h
  have e0 : (bt t 0).toNat.toUInt8 = t.data.toList[0] := by
    have := getD_bt t 0 (by omega)
    rw [List.getD_eq_getElem?_getD, List.getElem?_eq_getElem (by omega)] at this
    rw [show bt t ((0 : Nat) : Int) = bt t 0 from rfl] at this
    rw [← this]
    simp
  have e1 : (bt t 1).toNat.toUInt8 = t.data.toList[1] := by
    have := getD_bt t 1 (by omega)
    rw [List.getD_eq_getElem?_getD, List.getElem?_eq_getElem hl] at this
    rw [show bt t ((1 : Nat) : Int) = bt t 1 from rfl] at this
    rw [← this]
    simp
  have ex : (t.extract 0 2).data.toList = [t.data.toList[0], t.data.toList[1]] := by
    rw [Lib.extract_data, List.drop_zero]
    exact list2 _ hl
  rw [e0, e1, ByteArray.data_append, ByteArray.data_append, Array.toList_append, Array.toList_append, ex]
  rfl
theorem pre3 (t : ByteArray) : mk3 t = decide (3 ≤ t.size ∧ bt t 0 = 47 ∧ bt t 1 = 47 ∧ bt t 2 = 61) := by
  have g : ∀ k, k < t.size → bt t (k : Nat) = ((t.data.toList.getD k 0).toNat : Int) := fun k hk => (getD_bt t k hk).symm
  have hl := Lib.size_eq t
  unfold mk3 Lib.hasPrefix
  have key : ∀ l : List UInt8, ([47, 47, 61] : List UInt8).isPrefixOf l = decide (3 ≤ l.length ∧ l.getD 0 0 = 47 ∧ l.getD 1 0 = 47 ∧ l.getD 2 0 = 61) := by
    intro l
    match l with
    | [] => rfl
    | [a] => simp [List.isPrefixOf]
    | [a, b] => simp [List.isPrefixOf]
    | a :: b :: c :: r =>
      rw [Bool.eq_iff_iff, decide_eq_true_eq]
      show ((47 == a) && ((47 == b) && ((61 == c) && true))) = true ↔ _
      rw [Bool.and_true, Bool.and_eq_true, Bool.and_eq_true, beq_iff_eq, beq_iff_eq, beq_iff_eq]
      constructor
      · rintro ⟨rfl, rfl, rfl⟩
        exact ⟨by simp, rfl, rfl, rfl⟩
      · rintro ⟨_, e0, e1, e2⟩
        exact ⟨e0.symm, e1.symm, e2.symm⟩
  rw [key]
  have u : ∀ (b : UInt8) (n : UInt8), b = n ↔ ((b.toNat : Int) = (n.toNat : Int)) := by
    intro b n
    constructor
    · rintro rfl
      rfl
    · intro e
      apply UInt8.toNat_inj.1
      omega
  rw [decide_eq_decide, ← hl]
  constructor
  · rintro ⟨h3, h0, h1, h2⟩
    have e0 := g 0 (by omega)
    have e1 := g 1 (by omega)
    have e2 := g 2 (by omega)
    rw [h0] at e0
    rw [h1] at e1
    rw [h2] at e2
    exact ⟨h3, e0, e1, e2⟩
  · rintro ⟨h3, h0, h1, h2⟩
    have e0 := g 0 (by omega)
    have e1 := g 1 (by omega)
    have e2 := g 2 (by omega)
    rw [show ((0 : Nat) : Int) = 0 from rfl, h0] at e0
    rw [show ((1 : Nat) : Int) = 1 from rfl, h1] at e1
    rw [show ((2 : Nat) : Int) = 2 from rfl, h2] at e2
    exact ⟨h3, (u _ _).2 e0.symm, (u _ _).2 e1.symm, (u _ _).2 e2.symm⟩
theorem mk2_eq (t : ByteArray) (h : 1 < t.size) : mk2 t = Lib.contains twosT.data.toList [32, (bt t 0).toNat.toUInt8, (bt t 1).toNat.toUInt8, 32] := by
  unfold mk2
  rw [two_eq t h]

theorem pieceR_local (s S : ByteArray) (hs : s.size ≤ 1073741824) (i j n : Nat) (hA : Agree s S i j n) (hin : i < s.size) (last more : Int) (opL opM : List Int) (he : (pieceR last more opL opM (pieceZ s s.size (i + 1) [])).e = 0) (hp : (pieceR last more opL opM (pieceZ s s.size (i + 1) [])).pos = i + n) :
    0 < n ∧ pieceR last more opL opM (pieceZ S S.size (j + 1) []) = ⟨0, j + n, (pieceR last more opL opM (pieceZ s s.size (i + 1) [])).kind, (pieceR last more opL opM (pieceZ s s.size (i + 1) [])).text, (pieceR last more opL opM (pieceZ s s.size (i + 1) [])).op⟩ := by
  unfold pieceR at he hp ⊢
  simp only at he hp ⊢
  have hr := pieceZ_range s hs s.size (i + 1) [] (by omega) he
  rw [hp] at hr
  have hA2 := hA.2.1
  refine ⟨by omega, ?_⟩
  rw [piece_local s S hs s.size (i + 1) [] (j + 1) S.size (n - 1) he (hA.sub 1 (n - 1) (by omega)) (by omega) (by omega)]
  simp only
  rw [show j + 1 + (n - 1) = j + n by omega]

end Go.Proofs.YthlmhnlfcnpocaaDoor.U

namespace Go.Proofs.YthlmhnlfcnpocaaDoor.U
open Go.RowKit Go.Proofs.YthlmhnlfcnpocaaDoorW.PrintWords
set_option linter.unusedSimpArgs false
set_option linter.unusedVariables false

/-- blanks and whole remarks -/
inductive Gap : List UInt8 → Prop
  | none : Gap []
  | blank (c : UInt8) (l : List UInt8) : blankB (c.toNat : Int) = true → Gap l → Gap (c :: l)
  | remark (r l : List UInt8) : (∀ x ∈ r, x ≠ 10) → Gap l → Gap (35 :: (r ++ 10 :: l))
/-- what begins with no blank and no remark, or is at its end -/
def Solid (s : ByteArray) (i : Nat) : Prop := i = s.size ∨ (i < s.size ∧ blankB (bt s (i : Int)) = false ∧ bt s (i : Int) ≠ 35)

theorem runEnd_stay (p : Int → Bool) (s : ByteArray) (f i : Nat) (h : i < s.size → p (bt s (i : Int)) = false) : runEnd p s f i = i := by
  cases f with
  | zero => rfl
  | succ f =>
    rw [runEnd]
    by_cases c : i < s.size
    · rw [if_pos c, h c, if_neg (by decide)]
    · rw [if_neg c]
theorem remark_35 : remarkB 35 = true := by decide
theorem remark_10 : remarkB 10 = false := by decide
theorem blank_10 : blankB 10 = true := by decide

theorem skip_stay (s : ByteArray) (f i : Nat) (h : Solid s i) : skipZ s (f + 1) i = i := by
  rw [skipZ]
  rcases h with e | ⟨e1, e2, e3⟩
  · rw [runEnd_stay _ _ _ _ (fun c => by omega), if_pos e, e]
  · rw [runEnd_stay _ _ _ _ (fun c => e2), if_neg (by omega), if_pos e3]

end Go.Proofs.YthlmhnlfcnpocaaDoor.U
