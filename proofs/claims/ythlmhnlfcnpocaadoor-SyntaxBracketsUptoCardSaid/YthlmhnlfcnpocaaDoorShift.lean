/- A text in brackets, "(" s "\n)": its words are the bracket, the text's own words one place on, and the bracket. Plain Lean. -/
import Derived.Test.YthlmhnlfcnpocaaDoorLocalAll
import Derived.Test.YthlmhnlfcnpocaaDoorSynSim
import Derived.Test.YthlmhnlfcnpocaaDoorParseAll
namespace Go.Proofs.YthlmhnlfcnpocaaDoor.U
open Go.RowKit Go.Proofs.YthlmhnlfcnpocaaDoorW.PrintWords
set_option linter.unusedSimpArgs false
set_option linter.unusedVariables false

/-- the text in brackets -/
structure Br (s S : ByteArray) : Prop where
  size : S.size = s.size + 3
  eq : ∀ k, k < s.size → bt S ((k + 1 : Nat) : Int) = bt s (k : Int)
  fst : bt S 0 = 40
  nl : bt S ((s.size + 1 : Nat) : Int) = 10
  cl : bt S ((s.size + 2 : Nat) : Int) = 41

section
variable {s S : ByteArray} (B : Br s S)
include B
theorem Br.agree (i n : Nat) (h : i + n ≤ s.size) : Agree s S i (i + 1) n :=
  ⟨h, by rw [B.size]; omega, fun k hk => by rw [show i + 1 + k = i + k + 1 by omega]; exact (B.eq (i + k) (by omega)).symm⟩
theorem Br.run (p : Int → Bool) (h10 : p 10 = false) (i n : Nat) (hi : i ≤ s.size) (hr : runEnd p s (s.size - i) i = i + n) : runEnd p S (S.size - (i + 1)) (i + 1) = i + 1 + n := by
  have hb := runEnd_bounds p s (s.size - i) i hi
  have hs := runEnd_spec p s (s.size - i) i hi (Nat.le_refl _)
  have hS := B.size
  rw [hr] at hb hs
  refine runEnd_unique p S _ (i + 1) (i + 1 + n) (by omega) (by omega) (Nat.le_refl _) (fun k a b => ?_) (fun h => ?_)
  · obtain ⟨m, rfl⟩ : ∃ m, k = m + 1 := ⟨k - 1, by omega⟩
    rw [B.eq m (by omega)]
    exact hs.1 m (by omega) (by omega)
  · by_cases hm : i + n < s.size
    · rw [show i + 1 + n = i + n + 1 by omega, B.eq (i + n) hm]
      exact hs.2 hm
    · rw [show i + 1 + n = s.size + 1 by omega, B.nl]
      exact h10
theorem Br.blank (i : Nat) (hi : i ≤ s.size) : runEnd blankB S (S.size - (i + 1)) (i + 1) = if runEnd blankB s (s.size - i) i < s.size then runEnd blankB s (s.size - i) i + 1 else s.size + 2 := by
  have hb := runEnd_bounds blankB s (s.size - i) i hi
  have hs := runEnd_spec blankB s (s.size - i) i hi (Nat.le_refl _)
  have hS := B.size
  split
  · rename_i hlt
    refine runEnd_unique blankB S _ (i + 1) _ (by omega) (by omega) (Nat.le_refl _) (fun k a b => ?_) (fun h => ?_)
    · obtain ⟨m, rfl⟩ : ∃ m, k = m + 1 := ⟨k - 1, by omega⟩
      rw [B.eq m (by omega)]
      exact hs.1 m (by omega) (by omega)
    · rw [B.eq _ hlt]
      exact hs.2 hlt
  · refine runEnd_unique blankB S _ (i + 1) _ (by omega) (by omega) (Nat.le_refl _) (fun k a b => ?_) (fun h => ?_)
    · obtain ⟨m, rfl⟩ : ∃ m, k = m + 1 := ⟨k - 1, by omega⟩
      by_cases hm : m < s.size
      · rw [B.eq m hm]
        exact hs.1 m (by omega) (by omega)
      · rw [show m = s.size by omega, B.nl]
        exact blank_10
    · rw [B.cl]
      decide
theorem Br.skip : ∀ (f i g : Nat), i ≤ s.size → s.size < i + f → S.size < i + 1 + g → skipZ S g (i + 1) = if skipZ s f i < s.size then skipZ s f i + 1 else s.size + 2
  | 0, i, g, h1, h2, h3 => by omega
  | f + 1, i, g, h1, h2, h3 => by
    have hS := B.size
    obtain ⟨g, rfl⟩ : ∃ m, g = m + 1 := ⟨g - 1, by omega⟩
    have hb := runEnd_bounds blankB s (s.size - i) i h1
    rw [skipZ, skipZ, B.blank i h1]
    by_cases c : runEnd blankB s (s.size - i) i = s.size
    · rw [if_pos c, if_neg (show ¬ runEnd blankB s (s.size - i) i < s.size by omega), if_neg (show ¬ s.size < s.size by omega), if_neg (show ¬ s.size + 2 = S.size by omega), if_pos (by rw [B.cl]; decide)]
    · have hlt : runEnd blankB s (s.size - i) i < s.size := by omega
      rw [if_neg c, if_pos hlt, if_neg (show ¬ runEnd blankB s (s.size - i) i + 1 = S.size by omega), B.eq _ hlt]
      by_cases d : bt s (runEnd blankB s (s.size - i) i : Nat) ≠ 35
      · rw [if_pos d, if_pos d, if_pos hlt]
      · rw [if_neg d, if_neg d]
        have e35 : bt s (runEnd blankB s (s.size - i) i : Nat) = 35 := Classical.byContradiction fun z => d z
        have hst := runEnd_step remarkB s (runEnd blankB s (s.size - i) i) hlt (by rw [e35]; exact remark_35)
        obtain ⟨n, hn⟩ : ∃ n, runEnd remarkB s (s.size - runEnd blankB s (s.size - i) i) (runEnd blankB s (s.size - i) i) = runEnd blankB s (s.size - i) i + n := ⟨_, (Nat.add_sub_cancel' (Nat.le_of_lt hst.1)).symm⟩
        rw [B.run remarkB remark_10 _ n (by omega) hn, hn, show runEnd blankB s (s.size - i) i + 1 + n = runEnd blankB s (s.size - i) i + n + 1 by omega]
        exact Br.skip f _ g (by omega) (by omega) (by omega)
theorem Br.mark (i : Nat) (hi : i < s.size) (hm : markSz (s.extract i s.size) ≠ 0) : markSz (S.extract (i + 1) S.size) = markSz (s.extract i s.size) := by
  have hS := B.size
  have hA := B.agree i (s.size - i) (by omega)
  obtain ⟨t, ht⟩ : ∃ t, s.extract i s.size = t := ⟨_, rfl⟩
  obtain ⟨T, hT⟩ : ∃ T, S.extract (i + 1) S.size = T := ⟨_, rfl⟩
  have hts : t.size = s.size - i := by rw [← ht, ByteArray.size_extract]; omega
  have hTs : T.size = t.size + 2 := by rw [← hT, ByteArray.size_extract]; omega
  have hb : ∀ k, k < t.size → bt t (k : Nat) = bt T (k : Nat) := by
    intro k hk
    rw [← ht, ← hT, bt_ext s i k (by omega), bt_ext S (i + 1) k (by omega)]
    exact hA.at k (by omega)
  have h10 : bt T (t.size : Nat) = 10 := by
    rw [← hT, bt_ext S (i + 1) t.size (by omega), show i + 1 + t.size = s.size + 1 by omega]
    exact B.nl
  rw [ht] at hm ⊢
  rw [hT]
  have hp : 0 < t.size := by omega
  clear ht hT hA
  have b0 : bt t 0 = bt T 0 := hb 0 hp
  have m3 : mk3 T = mk3 t := by
    rw [pre3, pre3, decide_eq_decide]
    constructor
    · rintro ⟨z0, z1, z2, z3⟩
      by_cases h1 : t.size = 1
      · rw [h1] at h10
        have : bt T ((1 : Nat) : Int) = bt T 1 := rfl
        omega
      · by_cases h2 : t.size = 2
        · rw [h2] at h10
          have : bt T ((2 : Nat) : Int) = bt T 2 := rfl
          omega
        · have e1 : bt t 1 = bt T 1 := hb 1 (by omega)
          have e2 : bt t 2 = bt T 2 := hb 2 (by omega)
          exact ⟨by omega, by omega, by omega, by omega⟩
    · rintro ⟨z0, z1, z2, z3⟩
      have e1 : bt t 1 = bt T 1 := hb 1 (by omega)
      have e2 : bt t 2 = bt T 2 := hb 2 (by omega)
      exact ⟨by omega, by omega, by omega, by omega⟩
  unfold markSz at hm ⊢
  rw [m3]
  by_cases c3 : mk3 t = true
  · rw [if_pos c3, if_pos c3]
  · rw [if_neg c3] at hm
    rw [if_neg c3, if_neg c3]
    have h3 : 1 < t.size → mk2 T = mk2 t := fun h => by
      have b1 : bt t 1 = bt T 1 := hb 1 h
      rw [mk2_eq T (by omega), ← b0, ← b1, ← mk2_eq t h]
    by_cases c1 : 1 < t.size
    · rw [h3 c1, b0]
      by_cases c2 : mk2 t = true
      · rw [if_pos ⟨by omega, c2⟩, if_pos ⟨c1, c2⟩]
      · rw [if_neg (show ¬ (1 < T.size ∧ mk2 t = true) from fun z => c2 z.2), if_neg (show ¬ (1 < t.size ∧ mk2 t = true) from fun z => c2 z.2)]
    · rw [if_neg (show ¬ (1 < t.size ∧ mk2 t = true) from fun z => c1 z.1)] at hm
      have hm1 : mk1 (bt t 0) = true := by
        apply Classical.byContradiction
        intro z
        rw [if_neg z] at hm
        exact hm rfl
      have d2 : ¬ (1 < T.size ∧ mk2 T = true) := by
        rintro ⟨z1, z2⟩
        have e1 : t.size = 1 := by omega
        rw [e1] at h10
        rw [mk2_eq T z1, ← b0, show bt T 1 = 10 from h10] at z2
        rw [show (Int.toNat 10).toUInt8 = 10 from rfl, no_two _ (mk1_mem _ hm1) 10 (by decide)] at z2
        exact absurd z2 (by decide)
      rw [if_neg d2, if_neg (show ¬ (1 < t.size ∧ mk2 t = true) from fun z => c1 z.1), ← b0]

theorem Br.one (hs : s.size ≤ 1073741824) (i n : Nat) (op : List Int) (hi : i < s.size) (hF : Fits op i) (he : (oneR s i op).e = 0) (hp : (oneR s i op).pos = i + n) :
    oneR S (i + 1) op = ⟨0, i + 1 + n, (oneR s i op).kind, (oneR s i op).text, (oneR s i op).op⟩ := by
  have hS := B.size
  have hrg := oneR_range s i op hi hs hF he
  rw [hp] at hrg
  have hn : 0 < n := by omega
  have hA := B.agree i n hrg.2.1
  have hb := hA.head hn
  unfold oneR at he hp ⊢
  by_cases c1 : bt s (i : Int) = 34
  · rw [if_pos c1] at he hp ⊢
    rw [if_pos (hb ▸ c1)]
    exact (pieceR_local s S hs i (i + 1) n hA hi 6 7 op (op ++ [0]) he hp).2
  · have c1' : ¬ bt S ((i + 1 : Nat) : Int) = 34 := hb ▸ c1
    rw [if_neg c1] at he hp ⊢
    rw [if_neg c1']
    by_cases c2 : letterB (bt s (i : Int)) = true
    · rw [if_pos c2] at he hp ⊢
      rw [if_pos (hb ▸ c2)]
      simp only at hp ⊢
      have hr := B.run inNameB (by decide) i n (by omega) hp
      rw [hr, hp, hA.extract n (Nat.le_refl _)]
    · rw [if_neg c2] at he hp ⊢
      rw [if_neg (hb ▸ c2)]
      by_cases c3 : (bt s (i : Int) = 36 ∨ bt s (i : Int) = 46) ∧ (i + 1 < s.size ∧ letterB (bt s ((i + 1 : Nat) : Int)) = true)
      · rw [if_pos c3] at he hp ⊢
        by_cases c4 : bt s (i : Int) = 36 ∧ plainB (s.extract (i + 1) (runEnd inNameB s (s.size - (i + 1)) (i + 1))) = false
        · rw [if_pos c4] at he
          simp at he
        · rw [if_neg c4] at hp ⊢
          simp only at hp ⊢
          have hn2 : 2 ≤ n := by
            have := runEnd_step inNameB s (i + 1) c3.2.1 (letter_name _ c3.2.2)
            omega
          have hA' := hA.sub 1 (n - 1) (by omega)
          have hr := B.run inNameB (by decide) (i + 1) (n - 1) (by omega) (by rw [hp]; omega)
          have hx := hA'.extract (n - 1) (Nat.le_refl _)
          rw [show i + 1 + (n - 1) = i + n by omega, show i + 1 + 1 + (n - 1) = i + 1 + n by omega] at hx
          rw [show i + 1 + 1 + (n - 1) = i + 1 + n by omega] at hr
          rw [hp] at c4
          rw [if_pos ⟨hb ▸ c3.1, by omega, by rw [← hA.at 1 (by omega)]; exact c3.2.2⟩, hr, ← hx, ← hb, if_neg c4, hp]
      · rw [if_neg c3] at he hp ⊢
        have c3' : ¬ ((bt S ((i + 1 : Nat) : Int) = 36 ∨ bt S ((i + 1 : Nat) : Int) = 46) ∧ (i + 1 + 1 < S.size ∧ letterB (bt S ((i + 1 + 1 : Nat) : Int)) = true)) := by
          rw [← hb]
          rintro ⟨z1, z2, z3⟩
          by_cases hn1 : i + 1 < s.size
          · rw [B.eq (i + 1) hn1] at z3
            exact c3 ⟨z1, hn1, z3⟩
          · rw [show i + 1 + 1 = s.size + 1 by omega, B.nl] at z3
            exact absurd z3 (by decide)
        rw [if_neg c3']
        by_cases c5 : digitB (bt s (i : Int)) = true
        · rw [if_pos c5] at he hp ⊢
          rw [if_pos (hb ▸ c5)]
          by_cases c6 : formedB (s.extract i (runEnd numeralB s (s.size - i) i)) = true
          · rw [if_pos c6] at hp ⊢
            simp only at hp ⊢
            have hr := B.run numeralB (by decide) i n (by omega) hp
            rw [hp] at c6
            rw [hr, ← hA.extract n (Nat.le_refl _), if_pos c6, hp]
          · rw [if_neg c6] at he
            simp at he
        · rw [if_neg c5] at he hp ⊢
          rw [if_neg (hb ▸ c5)]
          unfold markR at he hp ⊢
          by_cases d0 : markSz (s.extract i s.size) = 0
          · rw [if_pos d0] at he
            simp at he
          · rw [if_neg d0] at he hp ⊢
            have key := B.mark i hi d0
            rw [key, if_neg d0]
            have cut : ∀ m, m ≤ n → (s.extract i s.size).extract 0 m = (S.extract (i + 1) S.size).extract 0 m := by
              intro m hm
              have := hA.extract m hm
              apply ByteArray.ext
              apply Array.ext'
              have t2 : (s.extract i (i + m)).data.toList = (S.extract (i + 1) (i + 1 + m)).data.toList := by rw [this]
              rw [Lib.extract_data, Lib.extract_data] at t2
              rw [Lib.extract_data, Lib.extract_data, Lib.extract_data, Lib.extract_data, List.drop_zero, List.drop_zero, List.take_of_length_le (l := s.data.toList.drop i) (by rw [List.length_drop, ← Lib.size_eq]; omega), List.take_of_length_le (l := S.data.toList.drop (i + 1)) (by rw [List.length_drop, ← Lib.size_eq]; omega)]
              rw [show i + m - i = m by omega, show i + 1 + m - (i + 1) = m by omega] at t2
              rw [Nat.sub_zero]
              exact t2
            by_cases d1 : op = [] ∨ markSz (s.extract i s.size) ≠ 1
            · rw [if_pos d1] at hp ⊢
              rw [if_pos d1]
              simp only at hp ⊢
              have e : markSz (s.extract i s.size) = n := by omega
              rw [e, cut n (Nat.le_refl _)]
            · rw [if_neg d1] at he hp ⊢
              rw [if_neg d1]
              by_cases d2 : bt s (i : Int) = 40
              · rw [if_pos d2] at hp ⊢
                rw [if_pos (hb ▸ d2)]
                simp only at hp ⊢
                have e : n = 1 := by omega
                rw [cut 1 (by omega), e]
              · rw [if_neg d2] at he hp ⊢
                rw [if_neg (hb ▸ d2)]
                by_cases d3 : bt s (i : Int) = 41
                · rw [if_pos d3] at he hp ⊢
                  rw [if_pos (hb ▸ d3)]
                  by_cases d4 : op.getD (op.length - 1) 0 = 0
                  · rw [if_pos d4] at he hp ⊢
                    rw [if_pos d4]
                    exact (pieceR_local s S hs i (i + 1) n hA hi 9 8 op.dropLast op he hp).2
                  · rw [if_neg d4] at hp ⊢
                    rw [if_neg d4]
                    simp only at hp ⊢
                    have e : n = 1 := by omega
                    rw [cut 1 (by omega), e]
                · rw [if_neg d3] at hp ⊢
                  rw [if_neg (hb ▸ d3)]
                  simp only at hp ⊢
                  have e : n = 1 := by omega
                  rw [cut 1 (by omega), e]
end
/-- a token one place on -/
def onT (t : Tok) : Tok := ⟨t.f0, t.f1 + 1, t.f2 + 1, t.f3⟩
theorem kind_pos (s : ByteArray) (i : Nat) (op : List Int) (he : (oneR s i op).e = 0) : (oneR s i op).kind ≠ 0 := by
  have hz : ∀ (last more : Int) (opL opM : List Int) (r : Int × Nat × Bool × List UInt8), last ≠ 0 → more ≠ 0 → (pieceR last more opL opM r).kind ≠ 0 := fun last more opL opM r h1 h2 => by
    unfold pieceR
    simp only
    split
    · exact h1
    · exact h2
  unfold oneR at he ⊢
  by_cases c1 : bt s (i : Int) = 34
  · rw [if_pos c1]
    exact hz _ _ _ _ _ (by decide) (by decide)
  · rw [if_neg c1] at he ⊢
    by_cases c2 : letterB (bt s (i : Int)) = true
    · rw [if_pos c2]
      simp only
      split <;> decide
    · rw [if_neg c2] at he ⊢
      by_cases c3 : (bt s (i : Int) = 36 ∨ bt s (i : Int) = 46) ∧ (i + 1 < s.size ∧ letterB (bt s ((i + 1 : Nat) : Int)) = true)
      · rw [if_pos c3] at he ⊢
        by_cases c4 : bt s (i : Int) = 36 ∧ plainB (s.extract (i + 1) (runEnd inNameB s (s.size - (i + 1)) (i + 1))) = false
        · rw [if_pos c4] at he
          exact absurd he (by show (160 : Int) ≠ 0; decide)
        · rw [if_neg c4]
          simp only
          split <;> decide
      · rw [if_neg c3] at he ⊢
        by_cases c5 : digitB (bt s (i : Int)) = true
        · rw [if_pos c5] at he ⊢
          by_cases c6 : formedB (s.extract i (runEnd numeralB s (s.size - i) i)) = true
          · rw [if_pos c6]
            show (5 : Int) ≠ 0
            decide
          · rw [if_neg c6] at he
            exact absurd he (by show (42 : Int) ≠ 0; decide)
        · rw [if_neg c5] at he ⊢
          unfold markR at he ⊢
          by_cases d0 : markSz (s.extract i s.size) = 0
          · rw [if_pos d0] at he
            exact absurd he (by show (160 : Int) ≠ 0; decide)
          · rw [if_neg d0]
            by_cases d1 : op = [] ∨ markSz (s.extract i s.size) ≠ 1
            · rw [if_pos d1]
              show (10 : Int) ≠ 0
              decide
            · rw [if_neg d1]
              by_cases d2 : bt s (i : Int) = 40
              · rw [if_pos d2]
                show (10 : Int) ≠ 0
                decide
              · rw [if_neg d2]
                by_cases d3 : bt s (i : Int) = 41
                · rw [if_pos d3]
                  by_cases d4 : op.getD (op.length - 1) 0 = 0
                  · rw [if_pos d4]
                    exact hz _ _ _ _ _ (by decide) (by decide)
                  · rw [if_neg d4]
                    show (10 : Int) ≠ 0
                    decide
                · rw [if_neg d3]
                  show (10 : Int) ≠ 0
                  decide

theorem no_40 : ∀ c : UInt8, Lib.contains twosT.data.toList [32, 40, c, 32] = false := by
  intro c
  have : ∀ n : Fin 256, Lib.contains twosT.data.toList [32, 40, UInt8.ofNat n.val, 32] = false := by decide +kernel
  have h := this ⟨c.toNat, UInt8.toNat_lt c⟩
  simpa using h
theorem one_byte (S : ByteArray) (j : Nat) (b : UInt8) (hj : j < S.size) (h : bt S (j : Int) = (b.toNat : Int)) : (S.extract j S.size).extract 0 1 = ⟨#[b]⟩ := by
  have hl : j < S.data.toList.length := by rw [← Lib.size_eq]; exact hj
  have hb : S.data.toList[j] = b := by
    have := getD_bt S j hj
    rw [List.getD_eq_getElem?_getD, List.getElem?_eq_getElem hl, Option.getD_some, h] at this
    exact UInt8.toNat_inj.1 (by omega)
  apply ByteArray.ext
  apply Array.ext'
  rw [Lib.extract_data, Lib.extract_data, List.drop_zero, List.drop_eq_getElem_cons hl, hb]
  obtain ⟨m, hm⟩ : ∃ m, S.size - j = m + 1 := ⟨S.size - j - 1, by omega⟩
  rw [hm, List.take_succ_cons]
  rfl
theorem mark_one (S : ByteArray) (j : Nat) (hj : j < S.size) (h : bt S (j : Int) = 40 ∨ bt S (j : Int) = 41) : markSz (S.extract j S.size) = 1 := by
  have hTs : (S.extract j S.size).size = S.size - j := by rw [ByteArray.size_extract]; omega
  have h0 : bt (S.extract j S.size) 0 = bt S (j : Int) := by
    have := bt_ext S j 0 (by omega)
    rw [Nat.add_zero] at this
    exact this
  unfold markSz
  have p3 : mk3 (S.extract j S.size) = false := by
    rw [pre3, decide_eq_false_iff_not, h0]
    rintro ⟨_, z, _⟩
    omega
  have p2 : ¬ (1 < (S.extract j S.size).size ∧ mk2 (S.extract j S.size) = true) := by
    rintro ⟨z1, z2⟩
    rw [mk2_eq _ z1, h0] at z2
    rcases h with h | h
    · rw [h, show (40 : Int).toNat.toUInt8 = 40 from rfl, no_40] at z2
      exact absurd z2 (by decide)
    · rw [h, show (41 : Int).toNat.toUInt8 = 41 from rfl, no_41] at z2
      exact absurd z2 (by decide)
  rw [p3, if_neg (by decide), if_neg p2, h0]
  rcases h with h | h
  · rw [h, if_pos (by decide)]
  · rw [h, if_pos (by decide)]
theorem one_br (S : ByteArray) (j : Nat) (b : UInt8) (hj : j < S.size) (hb : b = 40 ∨ b = 41) (h : bt S (j : Int) = (b.toNat : Int)) : oneR S j [] = ⟨0, j + 1, 10, ⟨#[b]⟩, []⟩ := by
  have h2 : bt S (j : Int) = 40 ∨ bt S (j : Int) = 41 := by
    rcases hb with rfl | rfl
    · exact Or.inl h
    · exact Or.inr h
  have hm := mark_one S j hj h2
  have hx := one_byte S j b hj h
  unfold oneR
  rw [if_neg (by omega), if_neg (by rcases h2 with e | e <;> rw [e] <;> decide), if_neg (by rintro ⟨z, _⟩; omega), if_neg (by rcases h2 with e | e <;> rw [e] <;> decide)]
  unfold markR
  rw [hm, if_neg (by decide), if_pos (Or.inl rfl), hx]
/-- the bracket behind -/
def closeT (s : ByteArray) : Tok := ⟨10, ((s.size + 2 : Nat) : Int), ((s.size + 2 + 1 : Nat) : Int), ⟨#[41]⟩⟩
theorem Br.scan {s S : ByteArray} (B : Br s S) (hs : s.size ≤ 1073741824) : ∀ (f i : Nat) (toks : List Tok) (op : List Int), i ≤ s.size → Fits op i → s.size < i + f → (scanZ s f i toks op).2.1 = 0 →
    ∃ new, (scanZ s f i toks op).1 = toks ++ new ∧ (∀ t ∈ new, t.f0 ≠ 0) ∧ ∀ (g : Nat) (toks2 : List Tok), S.size < i + 1 + g → scanZ S g (if i < s.size then i + 1 else s.size + 2) toks2 op = (toks2 ++ (new.map onT ++ [closeT s]), 0, 0)
  | 0, i, toks, op, hi, _, hf, _ => by omega
  | f + 1, i, toks, op, hi, hF, hf, he => by
    have hS := B.size
    rw [scanZ] at he ⊢
    by_cases hp : i < s.size
    · rw [if_pos hp] at he ⊢
      by_cases h0 : (oneR s i op).e = 0
      · rw [if_pos h0] at he ⊢
        have hok := oneR_range s i op hp hs hF h0
        have hkp := kind_pos s i op h0
        obtain ⟨n, hn⟩ : ∃ n, (oneR s i op).pos = i + n := ⟨(oneR s i op).pos - i, by omega⟩
        have h1 := B.one hs i n op hp hF h0 hn
        obtain ⟨r, hr⟩ : ∃ r, oneR s i op = r := ⟨_, rfl⟩
        rw [hr] at he h0 hok hn h1 hkp ⊢
        obtain ⟨re, rp, rk, rt, ro⟩ := r
        simp only at he h0 hok hn h1 hkp ⊢
        subst hn
        obtain ⟨o1, o2, o3⟩ := hok
        have hb := skipZ_bounds s (s.size + 1 - (i + n)) (i + n) o2
        obtain ⟨new, n1, n2, n3⟩ := Br.scan B hs f _ _ ro hb.2 (o3.mono hb.1) (by omega) he
        refine ⟨⟨rk, i, ((i + n : Nat) : Int), rt⟩ :: new, by rw [n1]; simp, ?_, ?_⟩
        · intro t ht
          rcases List.mem_cons.1 ht with rfl | ht
          · exact hkp
          · exact n2 t ht
        · intro g toks2 hg
          obtain ⟨g, rfl⟩ : ∃ m, g = m + 1 := ⟨g - 1, by omega⟩
          rw [if_pos hp, scanZ, if_pos (show i + 1 < S.size by omega), h1]
          simp only
          rw [if_pos trivial, show i + 1 + n = i + n + 1 by omega, B.skip (s.size + 1 - (i + n)) (i + n) (S.size + 1 - (i + n + 1)) o2 (by omega) (by omega), n3 g _ (by omega)]
          have e1 : ((i + n + 1 : Nat) : Int) = ((i + n : Nat) : Int) + 1 := by omega
          have e2 : ((i + 1 : Nat) : Int) = (i : Int) + 1 := by omega
          rw [e1, e2]
          simp [onT]
      · rw [if_neg h0] at he
        exact absurd he h0
    · rw [if_neg hp] at he ⊢
      by_cases ho : op = []
      · rw [if_pos ho]
        subst ho
        refine ⟨[], by simp, by simp, fun g toks2 hg => ?_⟩
        obtain ⟨g, rfl⟩ : ∃ m, g = m + 2 := ⟨g - 2, by omega⟩
        rw [if_neg hp, scanZ, if_pos (show s.size + 2 < S.size by omega), one_br S (s.size + 2) 41 (by omega) (Or.inr rfl) B.cl]
        simp only
        have hsk : skipZ S (S.size + 1 - (s.size + 2 + 1)) (s.size + 2 + 1) = S.size := by
          rw [show S.size + 1 - (s.size + 2 + 1) = 0 + 1 by omega, show s.size + 2 + 1 = S.size by omega]
          exact skip_stay S 0 S.size (Or.inl rfl)
        rw [if_pos trivial, hsk, scanZ, if_neg (Nat.lt_irrefl _), if_pos rfl]
        simp [closeT]
      · rw [if_neg ho] at he
        exact absurd he (by show (21 : Int) ≠ 0; decide)
theorem Br.words {s S : ByteArray} (B : Br s S) (hs : s.size ≤ 1073741824) {ws : List Tok} {pl : Int} (h : scanR s = (ws, 0, pl)) : scanR S = (⟨10, 0, 1, ⟨#[40]⟩⟩ :: (ws.map onT ++ [closeT s]), 0, 0) ∧ ∀ t ∈ ws, t.f0 ≠ 0 := by
  have hS := B.size
  have hb := skipZ_bounds s (s.size + 1) 0 (Nat.zero_le _)
  obtain ⟨new, n1, n2, n3⟩ := B.scan hs (s.size + 1) (skipZ s (s.size + 1) 0) [] [] hb.2 ⟨Nat.zero_le _, fun y hy => absurd hy List.not_mem_nil⟩ (by omega) (by show (scanR s).2.1 = 0; rw [h])
  have hw : ws = new := by
    have : (scanR s).1 = [] ++ new := n1
    rw [h] at this
    simpa using this
  subst hw
  refine ⟨?_, n2⟩
  have h40 : bt S ((0 : Nat) : Int) = ((40 : UInt8).toNat : Int) := B.fst
  have hsk : skipZ S (S.size + 1) 0 = 0 := skip_stay S S.size 0 (Or.inr ⟨by omega, by rw [h40]; decide, by rw [h40]; decide⟩)
  unfold scanR
  rw [hsk, scanZ, if_pos (by omega), one_br S 0 40 (by omega) (Or.inl rfl) h40]
  simp only
  rw [if_pos trivial, B.skip (s.size + 1) 0 (S.size + 1 - (0 + 1)) (Nat.zero_le _) (by omega) (by omega), n3 S.size _ (by omega)]
  simp
theorem kindZ_get (ws : List Tok) (i : Nat) : kindZ ws i = (ws[i]?.map (·.f0)).getD 0 := by
  unfold kindZ
  split
  · rename_i h
    rw [List.getElem?_eq_getElem h]
    rfl
  · rename_i h
    rw [List.getElem?_eq_none (by omega)]
    rfl
theorem saidZ_get (ws : List Tok) (i : Nat) : saidZ ws i = (ws[i]?.map (·.f3)).getD ⟨#[]⟩ := by
  unfold saidZ
  split
  · rename_i h
    rw [List.getElem?_eq_getElem h]
    rfl
  · rename_i h
    rw [List.getElem?_eq_none (by omega)]
    rfl
/-- what stands in brackets is read as it is alone, or nests too deep -/
theorem Br.parse {s S : ByteArray} (B : Br s S) (hs : s.size ≤ 1073741824) (n : SN) (h : parseZ s = (n, 0, 0)) : (∃ n', parseZ S = (n', 0, 0) ∧ Ali n n') ∨ (parseZ S).2.1 = 172 := by
  obtain ⟨ws, er, pl, hR⟩ : ∃ ws er pl, scanR s = (ws, er, pl) := ⟨_, _, _, rfl⟩
  unfold parseZ at h
  rw [hR] at h
  simp only at h
  by_cases he : er = 0
  · subst he
    rw [if_pos rfl] at h
    obtain ⟨h1, h2⟩ := B.words hs hR
    have hp : parseZ S = restZ (⟨10, 0, 1, ⟨#[40]⟩⟩ :: (ws.map onT ++ [closeT s])) (S.size : Int) := by
      unfold parseZ
      rw [h1]
      rfl
    rw [hp]
    have hget : ∀ i, i < ws.length → (⟨10, 0, 1, ⟨#[40]⟩⟩ :: (ws.map onT ++ [closeT s]) : List Tok)[i + 1]? = ws[i]?.map onT := fun i hi => by
      rw [List.getElem?_cons_succ, List.getElem?_append_left (by simpa using hi), List.getElem?_map]
    have hlast : (⟨10, 0, 1, ⟨#[40]⟩⟩ :: (ws.map onT ++ [closeT s]) : List Tok)[ws.length + 1]? = some (closeT s) := by
      rw [List.getElem?_cons_succ, List.getElem?_append_right (by simp)]
      simp
    refine bracket_rest (ws := ws) ⟨fun i hi => ?_, fun i hi => ?_, ?_, ?_⟩ (by simp) (by unfold isZ kindZ saidZ; simp) (fun i hi => ?_) n h
    · rw [kindZ_get, kindZ_get, hget i hi]
      cases ws[i]? <;> rfl
    · rw [saidZ_get, saidZ_get, hget i hi]
      cases ws[i]? <;> rfl
    · rw [kindZ_get, hlast]
      rfl
    · rw [saidZ_get, hlast]
      rfl
    · unfold kindZ
      rw [dif_pos hi]
      exact h2 _ (List.getElem_mem hi)
  · rw [if_neg he] at h
    injection h with _ h
    injection h with h _
    exact absurd h he
/-- the text in brackets, as it is laid together -/
theorem br_of (s : ByteArray) : Br s (((⟨#[40]⟩ : ByteArray) ++ s) ++ (⟨#[10, 41]⟩ : ByteArray)) := by
  obtain ⟨S, hS⟩ : ∃ S, ((⟨#[40]⟩ : ByteArray) ++ s) ++ (⟨#[10, 41]⟩ : ByteArray) = S := ⟨_, rfl⟩
  have hl : S.data.toList = (40 :: s.data.toList) ++ [10, 41] := by
    rw [← hS]
    simp [ByteArray.data_append]
  have hz : S.size = s.size + 3 := by
    rw [Lib.size_eq S, hl, Lib.size_eq s]
    simp
  have hg : ∀ k, k < S.size → bt S (k : Int) = (((40 :: s.data.toList) ++ [10, 41]).getD k 0).toNat := fun k hk => by rw [← getD_bt S k hk, hl]
  have hsz := Lib.size_eq s
  rw [hS]
  refine ⟨hz, fun k hk => ?_, ?_, ?_, ?_⟩
  · rw [hg (k + 1) (by omega), ← getD_bt s k hk]
    congr 2
    rw [List.getD_eq_getElem?_getD, List.getD_eq_getElem?_getD, List.getElem?_append_left (by simp; omega), List.getElem?_cons_succ]
  · have := hg 0 (by omega)
    simpa using this
  · rw [hg (s.size + 1) (by omega), List.getD_eq_getElem?_getD, List.getElem?_append_right (by rw [List.length_cons, ← hsz]; omega), List.length_cons, ← hsz, show s.size + 1 - (s.size + 1) = 0 by omega]
    rfl
  · rw [hg (s.size + 2) (by omega), List.getD_eq_getElem?_getD, List.getElem?_append_right (by rw [List.length_cons, ← hsz]; omega), List.length_cons, ← hsz, show s.size + 2 - (s.size + 1) = 1 by omega]
    rfl
theorem parse_at0 (s : ByteArray) (n : SN) (a : Int) (h : parseZ s = (n, 0, a)) : a = 0 := by
  obtain ⟨ws, er, pl, hR⟩ : ∃ ws er pl, scanR s = (ws, er, pl) := ⟨_, _, _, rfl⟩
  have hP : parseZ s = if er = 0 then restZ ws (s.size : Int) else (.zero, er, pl) := by unfold parseZ; rw [hR]
  rw [hP] at h
  by_cases he : er = 0
  · rw [if_pos he] at h
    rcases go_end ws (s.size : Int) with ⟨e, hg, hx⟩ | ⟨n0, j, o, hg, _, _⟩
    · rw [rest_err hg] at h
      injection h with _ h
      injection h with h _
      rcases hx with ⟨k, _⟩ | ⟨k | k, _⟩ <;> omega
    · rw [rest_ok hg] at h
      by_cases hk : kindZ ws j = 0
      · rw [if_pos hk] at h
        injection h with _ h
        injection h with _ h
        exact h.symm
      · rw [if_neg hk] at h
        injection h with _ h
        injection h with h _
        split at h <;> omega
  · rw [if_neg he] at h
    injection h with _ h
    injection h with h _
    exact absurd h he
/-- how the text and the text in brackets are read, one beside the other -/
theorem bracket_cases (s : ByteArray) (hs : s.size ≤ 1073741824) (n1 n2 : SN) (e1 a1 e2 a2 : Int) (h1 : parseZ s = (n1, e1, a1)) (h2 : parseZ (((⟨#[40]⟩ : ByteArray) ++ s) ++ (⟨#[10, 41]⟩ : ByteArray)) = (n2, e2, a2)) :
    e1 ≠ 0 ∨ (e1 = 0 ∧ ((e2 = 0 ∧ Ali n1 n2) ∨ e2 = 172)) := by
  by_cases he : e1 = 0
  · right
    refine ⟨he, ?_⟩
    rw [he] at h1
    have ha := parse_at0 s n1 a1 h1
    rw [ha] at h1
    rcases (br_of s).parse hs n1 h1 with ⟨n', hn', hal⟩ | h172
    · have e := h2.symm.trans hn'
      injection e with x1 e
      injection e with x2 _
      exact Or.inl ⟨x2, x1 ▸ hal⟩
    · rw [h2] at h172
      exact Or.inr h172
  · exact Or.inl he
end Go.Proofs.YthlmhnlfcnpocaaDoor.U
