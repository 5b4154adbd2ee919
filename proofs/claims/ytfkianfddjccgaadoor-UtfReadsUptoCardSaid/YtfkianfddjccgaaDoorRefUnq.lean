/- What the reference's functions on escapes and literals answer: just what the program's do. Plain Lean. -/
import Derived.Test.YtfkianfddjccgaaDoorRefAt2
import Derived.Test.YtfkianfddjccgaaDoorUq
import Derived.Test.YtfkianfddjccgaaDoorUL3x0
namespace Go.Proofs.YtfkianfddjccgaaDoor.U
open Go.RowKit Go.Proofs.YtfkianfddjccgaaDoorW.PrintWords
set_option linter.unusedSimpArgs false

theorem refDigit_eq (c : Int) (h0 : 0 ≤ c) (h1 : c ≤ 255) (k : Nat) (hk : 2 ≤ k) : hallmarkref02_digit.f k c = some (digitZ c) := by
  obtain ⟨k, rfl⟩ : ∃ m, k = m + 2 := ⟨k - 2, by omega⟩
  have e1 : wrap64 (wrap64 c - 48) = c - 48 := by unfold wrap64; omega
  have e2 : wrap64 (wrap64 (wrap64 c - 97) + 10) = c - 87 := by unfold wrap64; omega
  have e3 : wrap64 (wrap64 (wrap64 c - 65) + 10) = c - 55 := by unfold wrap64; omega
  unfold hallmarkref02_digit.f digitZ
  by_cases a : 48 ≤ c
  · rw [if_pos a]
    by_cases b : c ≤ 57
    · rw [if_pos ⟨a, b⟩]
      simp only [hallmarkref02_digit.j0, decide_eq_true b, if_true, e1]
    · rw [if_neg (by omega)]
      simp only [hallmarkref02_digit.j0, decide_eq_false b, Bool.false_eq_true, if_false]
      by_cases d : 97 ≤ c
      · rw [if_pos d]
        by_cases e : c ≤ 102
        · rw [if_pos ⟨d, e⟩]
          simp only [hallmarkref02_digit.j1, decide_eq_true e, if_true, e2]
        · rw [if_neg (by omega), if_neg (by omega)]
          simp only [hallmarkref02_digit.j1, decide_eq_false e, Bool.false_eq_true, if_false]
          rw [if_pos (by omega), if_neg (by omega)]
      · rw [if_neg d, if_neg (by omega)]
        simp only [hallmarkref02_digit.j1, Bool.false_eq_true, if_false]
        by_cases e : 65 ≤ c
        · rw [if_pos e]
          by_cases g : c ≤ 70
          · rw [if_pos g, if_pos ⟨e, g⟩, e3]
          · rw [if_neg g, if_neg (by omega)]
        · rw [if_neg e, if_neg (by omega)]
  · rw [if_neg a, if_neg (by omega), if_neg (by omega), if_neg (by omega)]
    simp only [hallmarkref02_digit.j0, Bool.false_eq_true, if_false]
    rw [if_neg (by omega)]
    simp only [hallmarkref02_digit.j1, Bool.false_eq_true, if_false]
    rw [if_neg (by omega)]

set_option linter.unusedVariables false
theorem bt_extract (s : ByteArray) (p j : Nat) (h : p + j < s.size) : bt (s.extract p s.size) (j : Int) = bt s ((p + j : Nat) : Int) := by
  have hl : j < (s.extract p s.size).size := by rw [ByteArray.size_extract]; omega
  rw [← getD_bt s (p + j) h, ← getD_bt (s.extract p s.size) j hl, extract_drop, Lib.getD_dropU]
theorem extract_twice (s : ByteArray) (p q : Nat) (h : p ≤ s.size) : (s.extract p s.size).extract q (s.extract p s.size).size = s.extract (p + q) s.size := by
  apply ByteArray.ext
  apply Array.ext'
  have e1 := extract_drop (s.extract p s.size) q
  have e2 := extract_drop s p
  have e3 := extract_drop s (p + q)
  rw [e1, e2, e3, List.drop_drop]

theorem num_round (s : ByteArray) (p n k : Nat) (x : Int) (c : Int) (hp : p + 6 ≤ s.size) (hs : s.size ≤ 140737488351232) (hn : n < 4) (hx0 : 0 ≤ x) (hx1 : x < 65536) (hk : 2 ≤ k) (hc : bt s ((p + (2 + n) : Nat) : Int) = c) :
    hallmarkref02_numbered.l0 (k + 1) s p x ((2 + n : Nat) : Int) = if digitZ c < 0 then some (-1) else hallmarkref02_numbered.l0 k s p (x * 16 + digitZ c) ((2 + (n + 1) : Nat) : Int) := by
  have hr := bt_range s ((p + (2 + n) : Nat) : Int)
  rw [hc] at hr
  have hd := digitZ_range c
  have hq : wrap64 ((p : Int) + ((2 + n : Nat) : Int)) = ((p + (2 + n) : Nat) : Int) := by unfold wrap64; omega
  have hw : wrap64 (((2 + n : Nat) : Int) + 1) = ((2 + (n + 1) : Nat) : Int) := by unfold wrap64; omega
  have hv : wrap64 (wrap64 (16 * x) + digitZ c) = x * 16 + digitZ c := by unfold wrap64; omega
  simp only [hallmarkref02_numbered.l0]
  rw [if_pos (by omega), hq, if_pos (by omega), if_pos (by omega), hc, refDigit_eq c hr.1 (by omega) k hk]
  simp only [Option.bind_some, hw, hv]

theorem refNumbered_eq (s : ByteArray) (hs : s.size ≤ 140737488351232) (p : Nat) (hp : p ≤ s.size) (k : Nat) (hk : 10 ≤ k) : hallmarkref02_numbered.f k s p = some (numberedZ (s.extract p s.size)) := by
  have hts : (s.extract p s.size).size = s.size - p := by rw [ByteArray.size_extract]; omega
  have hw6 : wrap64 ((p : Int) + 6) = ((p + 6 : Nat) : Int) := by unfold wrap64; omega
  have hw1 : wrap64 ((p : Int) + 1) = ((p + 1 : Nat) : Int) := by unfold wrap64; omega
  obtain ⟨k, rfl⟩ : ∃ m, k = m + 6 := ⟨k - 6, by omega⟩
  unfold hallmarkref02_numbered.f
  rw [hw6, hw1]
  by_cases h6 : p + 6 ≤ s.size
  · have e0 : bt (s.extract p s.size) 0 = bt s (p : Int) := bt_extract s p 0 (by omega)
    have e1 : bt (s.extract p s.size) 1 = bt s ((p + 1 : Nat) : Int) := bt_extract s p 1 (by omega)
    have e2 : bt (s.extract p s.size) 2 = bt s ((p + (2 + 0) : Nat) : Int) := bt_extract s p 2 (by omega)
    have e3 : bt (s.extract p s.size) 3 = bt s ((p + (2 + 1) : Nat) : Int) := bt_extract s p 3 (by omega)
    have e4 : bt (s.extract p s.size) 4 = bt s ((p + (2 + 2) : Nat) : Int) := bt_extract s p 4 (by omega)
    have e5 : bt (s.extract p s.size) 5 = bt s ((p + (2 + 3) : Nat) : Int) := bt_extract s p 5 (by omega)
    have hz : numberedZ (s.extract p s.size) = if bt s (p : Int) = 92 ∧ bt s ((p + 1 : Nat) : Int) = 117 then numZ (s.extract p s.size) else -1 := by
      unfold numberedZ
      rw [e0, e1]
      by_cases c : bt s (p : Int) = 92 ∧ bt s ((p + 1 : Nat) : Int) = 117
      · rw [if_pos c, if_pos ⟨by omega, c.1, c.2⟩]
      · rw [if_neg c, if_neg (fun g => c ⟨g.2.1, g.2.2⟩)]
    have hn : numZ (s.extract p s.size) = if digitZ (bt (s.extract p s.size) 2) < 0 ∨ digitZ (bt (s.extract p s.size) 3) < 0 ∨ digitZ (bt (s.extract p s.size) 4) < 0 ∨ digitZ (bt (s.extract p s.size) 5) < 0 then -1 else
        (((0 * 16 + digitZ (bt (s.extract p s.size) 2)) * 16 + digitZ (bt (s.extract p s.size) 3)) * 16 + digitZ (bt (s.extract p s.size) 4)) * 16 + digitZ (bt (s.extract p s.size) 5) := rfl
    rw [hz, hn, e2, e3, e4, e5, if_neg (by omega), if_pos (by omega), if_pos (by omega)]
    clear hz hn e0 e1 e2 e3 e4 e5
    obtain ⟨b0, hb0⟩ : ∃ b, bt s (p : Int) = b := ⟨_, rfl⟩
    obtain ⟨b1, hb1⟩ : ∃ b, bt s ((p + 1 : Nat) : Int) = b := ⟨_, rfl⟩
    obtain ⟨c0, hc0⟩ : ∃ b, bt s ((p + (2 + 0) : Nat) : Int) = b := ⟨_, rfl⟩
    obtain ⟨c1, hc1⟩ : ∃ b, bt s ((p + (2 + 1) : Nat) : Int) = b := ⟨_, rfl⟩
    obtain ⟨c2, hc2⟩ : ∃ b, bt s ((p + (2 + 2) : Nat) : Int) = b := ⟨_, rfl⟩
    obtain ⟨c3, hc3⟩ : ∃ b, bt s ((p + (2 + 3) : Nat) : Int) = b := ⟨_, rfl⟩
    rw [hb0, hb1, hc0, hc1, hc2, hc3]
    by_cases a0 : b0 = 92
    · rw [if_pos a0, if_pos (by omega), if_pos (by omega)]
      by_cases a1 : b1 = 117
      · have hj : (b1 != 117) = false := by rw [a1]; rfl
        rw [if_pos ⟨a0, a1⟩, hj]
        simp only [hallmarkref02_numbered.j0, Bool.false_eq_true, if_false]
        have d0 := digitZ_range c0
        have d1 := digitZ_range c1
        have d2 := digitZ_range c2
        have d3 := digitZ_range c3
        have r0 := num_round s p 0 (k + 4) 0 c0 h6 hs (by omega) (by omega) (by omega) (by omega) hc0
        have r1 := num_round s p 1 (k + 3) (0 * 16 + digitZ c0) c1 h6 hs (by omega)
        have r2 := num_round s p 2 (k + 2) ((0 * 16 + digitZ c0) * 16 + digitZ c1) c2 h6 hs (by omega)
        have r3 := num_round s p 3 (k + 1) (((0 * 16 + digitZ c0) * 16 + digitZ c1) * 16 + digitZ c2) c3 h6 hs (by omega)
        refine r0.trans ?_
        by_cases g0 : digitZ c0 < 0
        · rw [if_pos g0, if_pos (Or.inl g0)]
        · rw [if_neg g0]
          refine (r1 (by omega) (by omega) (by omega) hc1).trans ?_
          by_cases g1 : digitZ c1 < 0
          · rw [if_pos g1, if_pos (Or.inr (Or.inl g1))]
          · rw [if_neg g1]
            refine (r2 (by omega) (by omega) (by omega) hc2).trans ?_
            by_cases g2 : digitZ c2 < 0
            · rw [if_pos g2, if_pos (Or.inr (Or.inr (Or.inl g2)))]
            · rw [if_neg g2]
              refine (r3 (by omega) (by omega) (by omega) hc3).trans ?_
              by_cases g3 : digitZ c3 < 0
              · rw [if_pos g3, if_pos (Or.inr (Or.inr (Or.inr g3)))]
              · rw [if_neg g3, if_neg (by omega)]
                simp only [hallmarkref02_numbered.l0]
                rw [if_neg (by omega)]
      · have hj : (b1 != 117) = true := bne_iff_ne.2 a1
        rw [if_neg (fun g => a1 g.2), hj]
        simp only [hallmarkref02_numbered.j0, if_true]
    · rw [if_neg a0, if_neg (fun g => a0 g.1)]
      simp only [hallmarkref02_numbered.j0, if_true]
  · rw [if_pos (by omega)]
    unfold numberedZ
    rw [if_neg (by omega)]
    simp only [hallmarkref02_numbered.j0, if_true]

theorem short_all : ∀ c : Fin 256, hallmarkref02_short.f 130 (c.val : Int) = some (shortZ (c.val : Int)) := by decide +kernel
theorem refShort_eq (c : Int) (h0 : 0 ≤ c) (h1 : c ≤ 255) : ∀ n, hallmarkref02_short.f (n + 130) c = some (shortZ c)
  | 0 => by
    obtain ⟨m, rfl⟩ : ∃ m : Nat, c = m := ⟨c.toNat, by omega⟩
    exact short_all ⟨m, by omega⟩
  | n + 1 => hallmarkref02_short.mono c (n + 130) _ (refShort_eq c h0 h1 n)
theorem refShort_at (c : Int) (h0 : 0 ≤ c) (h1 : c ≤ 255) (k : Nat) (hk : 130 ≤ k) : hallmarkref02_short.f k c = some (shortZ c) := by
  obtain ⟨n, rfl⟩ : ∃ n, k = n + 130 := ⟨k - 130, by omega⟩
  exact refShort_eq c h0 h1 n

theorem refEscape_eq (s : ByteArray) (hs : s.size ≤ 140737488351232) (p : Nat) (hp : p < s.size) (k : Nat) (hk : 140 ≤ k) :
    hallmarkref02_Escape.f k s p = some ((escT (s.extract p s.size)).1, (p : Int) + (escT (s.extract p s.size)).2.1, (escT (s.extract p s.size)).2.2) := by
  have hts : (s.extract p s.size).size = s.size - p := by rw [ByteArray.size_extract]; omega
  have hw6 : wrap64 ((p : Int) + 6) = ((p + 6 : Nat) : Int) := by unfold wrap64; omega
  have hw12 : wrap64 ((p : Int) + 12) = (p : Int) + 12 := by unfold wrap64; omega
  have hw2 : wrap64 ((p : Int) + 2) = (p : Int) + 2 := by unfold wrap64; omega
  have hw1 : wrap64 ((p : Int) + 1) = ((p + 1 : Nat) : Int) := by unfold wrap64; omega
  obtain ⟨k, rfl⟩ : ∃ m, k = m + 2 := ⟨k - 2, by omega⟩
  have hnr := numberedZ_range (s.extract p s.size)
  have hnum := refNumbered_eq s hs p (by omega) (k + 1) (by omega)
  have e0 : bt (s.extract p s.size) 0 = bt s (p : Int) := bt_extract s p 0 (by omega)
  unfold escT
  rw [e0, hts, ← hts, extract_twice s p 6 (by omega), hts]
  rw [hts] at hnr
  obtain ⟨n, hn⟩ : ∃ n, numberedZ (s.extract p s.size) = n := ⟨_, rfl⟩
  rw [hn] at hnr hnum ⊢
  clear hn
  unfold hallmarkref02_Escape.f
  rw [if_neg (by omega), decide_eq_false (show ¬ ((p : Int) ≥ (s.size : Int)) by omega)]
  simp only [hallmarkref02_Escape.j0, Bool.false_eq_true, if_false]
  rw [hnum]
  rw [Option.bind_some]
  unfold escV
  by_cases c0 : n < 0
  · rw [if_pos c0, if_pos c0, if_pos (by omega), if_pos (by omega)]
    by_cases c1 : bt s (p : Int) = 92
    · rw [if_pos c1, hw1]
      by_cases c2 : p + 1 < s.size
      · have e1 : bt (s.extract p s.size) 1 = bt s ((p + 1 : Nat) : Int) := bt_extract s p 1 (by omega)
        have hr := bt_range s ((p + 1 : Nat) : Int)
        rw [if_pos (by omega), if_pos (by omega), e1]
        have hsh := refShort_at (bt s ((p + 1 : Nat) : Int)) hr.1 (by omega) (k + 1) (by omega)
        rw [hsh]
        rw [Option.bind_some]
        by_cases c3 : 0 ≤ shortZ (bt s ((p + 1 : Nat) : Int))
        · rw [if_pos c3, if_pos ⟨by omega, c1, c3⟩, hw2]
          rfl
        · rw [if_neg c3, if_neg (fun g => c3 g.2.2)]
          simp
      · rw [if_neg (by omega), if_neg (by omega)]
        simp
    · rw [if_neg c1, if_neg (fun g => c1 g.2.1)]
      simp
  · rw [if_neg c0, if_neg c0]
    have h6 := hnr.2.2 (by omega)
    have plain : (n < 55296 ∨ 57343 < n) → hallmarkref02_Escape.j1 (k + 1) s p n true = some ((if 56320 ≤ n ∧ n ≤ 57343 then ((0, 0, 24) : Int × Int × Int) else if ¬ (55296 ≤ n ∧ n ≤ 56319) then (n, 6, 0)
        else if 56320 ≤ numberedZ (s.extract (p + 6) s.size) ∧ numberedZ (s.extract (p + 6) s.size) ≤ 57343 then (65536 + (n - 55296) * 1024 + (numberedZ (s.extract (p + 6) s.size) - 56320), 12, 0) else (0, 0, 24)).1,
        (p : Int) + (if 56320 ≤ n ∧ n ≤ 57343 then ((0, 0, 24) : Int × Int × Int) else if ¬ (55296 ≤ n ∧ n ≤ 56319) then (n, 6, 0)
        else if 56320 ≤ numberedZ (s.extract (p + 6) s.size) ∧ numberedZ (s.extract (p + 6) s.size) ≤ 57343 then (65536 + (n - 55296) * 1024 + (numberedZ (s.extract (p + 6) s.size) - 56320), 12, 0) else (0, 0, 24)).2.1,
        (if 56320 ≤ n ∧ n ≤ 57343 then ((0, 0, 24) : Int × Int × Int) else if ¬ (55296 ≤ n ∧ n ≤ 56319) then (n, 6, 0)
        else if 56320 ≤ numberedZ (s.extract (p + 6) s.size) ∧ numberedZ (s.extract (p + 6) s.size) ≤ 57343 then (65536 + (n - 55296) * 1024 + (numberedZ (s.extract (p + 6) s.size) - 56320), 12, 0) else (0, 0, 24)).2.2) := by
      intro h
      simp only [hallmarkref02_Escape.j1, if_true]
      rw [if_neg (by omega), if_pos (by omega), hw6]
      rfl
    by_cases c1 : n < 55296
    · rw [if_pos c1]
      exact plain (Or.inl c1)
    · rw [if_neg c1]
      by_cases c2 : n > 57343
      · rw [decide_eq_true c2]
        exact plain (Or.inr c2)
      · rw [decide_eq_false c2]
        clear plain
        have hm := refNumbered_eq s hs (p + 6) (by omega) k (by omega)
        have hmr := numberedZ_range (s.extract (p + 6) s.size)
        obtain ⟨m, hmm⟩ : ∃ m, numberedZ (s.extract (p + 6) s.size) = m := ⟨_, rfl⟩
        rw [hmm] at hm hmr ⊢
        clear hmm
        simp only [hallmarkref02_Escape.j1, Bool.false_eq_true, if_false]
        rw [hw6, hm]
        rw [Option.bind_some]
        by_cases c3 : n ≥ 56320
        · rw [if_pos c3, if_pos (by omega)]
          simp
        · rw [if_neg c3, if_neg (show ¬ (56320 ≤ n ∧ n ≤ 57343) by omega), if_neg (show ¬ ¬ (55296 ≤ n ∧ n ≤ 56319) by omega)]
          by_cases c4 : m < 56320
          · rw [if_pos c4, if_neg (by omega)]
            simp
          · rw [if_neg c4]
            by_cases c5 : m > 57343
            · rw [if_pos c5, if_neg (by omega)]
              simp
            · rw [if_neg c5, if_pos (by omega), hw12]
              have e : wrap64 (wrap64 (wrap64 (65536 + wrap64 (wrap64 (n - 55296) * 1024)) + m) - 56320) = 65536 + (n - 55296) * 1024 + (m - 56320) := by unfold wrap64; omega
              rw [e]

theorem nums_enc (l : List Int) : strOfNums (l.flatMap Lib.encodeRuneZ) = textZ l := by
  unfold strOfNums textZ
  congr 2
  rw [List.map_flatMap]
  rfl
theorem encZ_flat : ∀ l : List Int, (l.flatMap Lib.encodeRuneZ).length ≤ 4 * l.length
  | [] => Nat.le_refl _
  | r :: l => by
    have := encZ_flat l
    have := (Lib.encodeRuneZ_length r).2
    rw [List.flatMap_cons, List.length_append, List.length_cons]
    omega
theorem refText_loop (l : List Int) (hl : l.length ≤ 4194304) (hr : ∀ r ∈ l, Utf.Proper r) : ∀ (n i k : Nat), i + n = l.length → n + 8 < k → hallmarkref02_Text.l0 k l ((l.take i).flatMap Lib.encodeRuneZ) i = some (textZ l)
  | 0, i, k, hi, hk => by
    obtain ⟨k, rfl⟩ : ∃ m, k = m + 1 := ⟨k - 1, by omega⟩
    simp only [hallmarkref02_Text.l0]
    rw [if_neg (by omega), List.take_of_length_le (by omega), nums_enc]
  | n + 1, i, k, hi, hk => by
    obtain ⟨k, rfl⟩ : ∃ m, k = m + 1 := ⟨k - 1, by omega⟩
    have hlt : i < l.length := by omega
    have hw : wrap64 ((i : Int) + 1) = ((i + 1 : Nat) : Int) := by unfold wrap64; omega
    have ih := refText_loop l hl hr n (i + 1) k (by omega) (by omega)
    have hf := encZ_flat (l.take i)
    have h4 := (Lib.encodeRuneZ_length l[i]).2
    have ht : (l.take i).length ≤ i := List.length_take_le _ _
    simp only [hallmarkref02_Text.l0]
    rw [if_pos (by omega), if_pos (by omega), rd_nat l i hlt, refEnc_eq l[i] (hr _ (List.getElem_mem hlt)) k (by omega)]
    rw [Option.bind_some]
    rw [if_pos (by omega), hw]
    have e : (l.take i).flatMap Lib.encodeRuneZ ++ Lib.encodeRuneZ l[i] = (l.take (i + 1)).flatMap Lib.encodeRuneZ := by
      rw [List.take_succ_eq_append_getElem hlt, List.flatMap_append]
      simp
    rw [e]
    exact ih
theorem refText_eq (l : List Int) (hl : l.length ≤ 4194304) (hr : ∀ r ∈ l, Utf.Proper r) (k : Nat) (hk : l.length + 8 < k) : hallmarkref02_Text.f k l = some (textZ l) := by
  have := refText_loop l hl hr l.length 0 k (by omega) hk
  exact this

theorem refUnq_loop (s : ByteArray) (hs : s.size ≤ 1048576) : ∀ (d p k f : Nat) (x : List Int), s.size ≤ p + d → p ≤ s.size → (∀ r ∈ x, Utf.Proper r) → x.length ≤ p → s.size ≤ p + f → d + s.size + 200 ≤ k →
    hallmarkref02_Unquote.l0 k s p x = some (unq s f p (x.flatMap Lib.encodeRune)) := by
  have stop : ∀ (p k f : Nat) (x : List Int), ¬ p < s.size → 1 ≤ k → hallmarkref02_Unquote.l0 k s p x = some (unq s f p (x.flatMap Lib.encodeRune)) := by
    intro p k f x hp hk
    obtain ⟨k, rfl⟩ : ∃ m, k = m + 1 := ⟨k - 1, by omega⟩
    rw [unq_end s f p _ hp]
    simp only [hallmarkref02_Unquote.l0]
    rw [if_neg (by omega)]
    rfl
  intro d
  induction d with
  | zero =>
    intro p k f x h1 h2 _ _ _ hk
    exact stop p k f x (by omega) (by omega)
  | succ d ih =>
    intro p k f x h1 h2 hx hl hf hk
    by_cases hp : p < s.size
    · obtain ⟨k, rfl⟩ : ∃ m, k = m + 1 := ⟨k - 1, by omega⟩
      obtain ⟨f, rfl⟩ : ∃ m, f = m + 1 := ⟨f - 1, by omega⟩
      have hwd := Utf.at_width s p hp
      have hat := refAt_eq s (by omega) p hp k (by omega)
      have htx := refText_eq x (by omega) hx k (by omega)
      have hes := refEscape_eq s (by omega) p hp k (by omega)
      have her := escT_range (s.extract p s.size)
      have hep := escT_proper (s.extract p s.size)
      have hdp := decodeS_proper s p
      have hback := decode_back s p hp 34 (by decide)
      have hts : (s.extract p s.size).size = s.size - p := by rw [ByteArray.size_extract]; omega
      rw [hts] at her
      unfold atZ strayAt at hat
      have snoc : ∀ (r : Int), Utf.Proper r → ∀ y ∈ x ++ [r], Utf.Proper y := by
        intro r h y hy
        rcases List.mem_append.1 hy with g | g
        · exact hx y g
        · rw [List.mem_singleton.1 g]
          exact h
      have flat : ∀ r : Int, x.flatMap Lib.encodeRune ++ Lib.encodeRune r = (x ++ [r]).flatMap Lib.encodeRune := by
        intro r
        simp
      have go : ∀ (q : Nat) (r : Int), p + 1 ≤ q → q ≤ s.size → Utf.Proper r → hallmarkref02_Unquote.l0 k s q (x ++ [r]) = some (unq s f q (x.flatMap Lib.encodeRune ++ Lib.encodeRune r)) := by
        intro q r g1 g2 g3
        rw [flat]
        exact ih q k f (x ++ [r]) (by omega) g2 (snoc r g3) (by rw [List.length_append]; simp only [List.length_cons, List.length_nil]; omega) (by omega) (by omega)
      clear ih stop
      obtain ⟨e, he⟩ : ∃ e, escT (s.extract p s.size) = e := ⟨_, rfl⟩
      obtain ⟨c, hc⟩ : ∃ c, Utf8.decode s p = c := ⟨_, rfl⟩
      obtain ⟨e1, e2, e3⟩ := e
      obtain ⟨c1, c2⟩ := c
      rw [he] at hes her hep
      rw [hc] at hat hdp hback hwd
      simp only at hat hdp hback hwd hes her hep
      unfold unq
      rw [hc, he]
      simp only [hallmarkref02_Unquote.l0]
      rw [if_pos (by omega), if_pos hp, hat]
      rw [Option.bind_some]
      dsimp only
      by_cases a1 : c1 = 34
      · rw [if_pos (by omega), if_pos a1, htx]
        rw [Option.bind_some]
        rw [(hback a1).2]
        rfl
      · rw [if_neg (by omega), if_neg a1]
        by_cases a2 : c1 < 32
        · rw [if_pos (by omega), if_pos a2]
          rfl
        · rw [if_neg (by omega), if_neg a2]
          by_cases a3 : c1 = 65533 ∧ c2 = 1
          · rw [decide_eq_true a3, if_pos rfl, if_pos a3]
            rfl
          · rw [decide_eq_false a3, if_neg (by decide), if_neg a3]
            by_cases a4 : c1 = 92
            · rw [if_pos (by omega), if_pos a4, hes]
              rw [Option.bind_some]
              dsimp only
              by_cases a5 : e3 = 0
              · have hr := her a5
                rw [if_pos a5, if_pos a5, if_pos (by omega)]
                have hq : (p : Int) + e2 = ((p + e2.toNat : Nat) : Int) := by omega
                rw [hq]
                exact go (p + e2.toNat) e1 (by omega) (by omega) (hep a5)
              · rw [if_neg a5, if_neg a5]
                rfl
            · rw [if_neg (by omega), if_neg a4, if_pos (by omega)]
              exact go (p + c2) (c1 : Int) (by omega) (by omega) hdp
    · exact stop p k f x hp (by omega)

theorem refUnq_eq (s : ByteArray) (hs : s.size ≤ 1048576) (a : Int) (k : Nat) (hk : 2 * s.size + 300 ≤ k) : hallmarkref02_Unquote.f k s a = some (unqAt s a) := by
  obtain ⟨k, rfl⟩ : ∃ m, k = m + 1 := ⟨k - 1, by omega⟩
  unfold hallmarkref02_Unquote.f unqAt
  by_cases c0 : a < 0
  · rw [if_pos c0, if_pos (Or.inl c0)]
    simp only [hallmarkref02_Unquote.j0, if_true]
    rfl
  · rw [if_neg c0]
    by_cases c1 : a ≥ (s.size : Int)
    · rw [decide_eq_true c1, if_pos (Or.inr c1)]
      simp only [hallmarkref02_Unquote.j0, if_true]
      rfl
    · rw [decide_eq_false c1, if_neg (by omega)]
      simp only [hallmarkref02_Unquote.j0, Bool.false_eq_true, if_false]
      rw [if_pos (by omega), if_pos (by omega)]
      obtain ⟨p, rfl⟩ : ∃ p : Nat, a = p := ⟨a.toNat, by omega⟩
      by_cases c2 : bt s (p : Int) = 34
      · have hw : wrap64 ((p : Int) + 1) = ((p + 1 : Nat) : Int) := by unfold wrap64; omega
        rw [if_pos c2, if_neg (fun g => g c2), hw, Int.toNat_natCast]
        exact refUnq_loop s hs s.size (p + 1) k s.size [] (by omega) (by omega) (by simp) (by simp) (by omega) (by omega)
      · rw [if_neg c2, if_pos c2]
        rfl

end Go.Proofs.YtfkianfddjccgaaDoor.U
