/- The law TokenJoins walked: two texts without a fault, one behind the other with a line end between. -/
import Derived.Test.YtkfcoikfhpabmaaDoorETokScan
import Derived.Test.YtkfcoikfhpabmaaDoorUL0x0
import Derived.Deep.LoopGhost
import Derived.Lib.Hide
import Derived.Outline
import Derived.Test.YtkfcoikfhpabmaaDoorPTok
import Derived.OwnWalk
import Derived.Test.YtkfcoikfhpabmaaDoorTokAll
namespace Go.Proofs.YtkfcoikfhpabmaaDoor.U
open Go.RowKit Go.Proofs.YtkfcoikfhpabmaaDoorW.PrintWords
set_option linter.unusedSimpArgs false
set_option linter.unusedVariables false

/-- a token hangs on the bytes up to its end, and on what ends its run -/
theorem tok_local_of (s S : ByteArray) (i j n : Nat) (hi : i < s.size) (he : (tokR s i).e = 0) (hp : (tokR s i).pos = i + n) (hA : Agree s S i j n) (hsw : runEnd wordT s (s.size - i) i = i + n → j + n < S.size → wordT (bt S ((j + n : Nat) : Int)) = false) (hsn : runEnd numT s (s.size - i) i = i + n → j + n < S.size → numT (bt S ((j + n : Nat) : Int)) = false) :
    tokR S j = ⟨0, 0, (tokR s i).kind, j + n, (tokR s i).text⟩ := by
  have hrg := tokR_range s i hi he
  rw [hp] at hrg
  have hn : 0 < n := by omega
  have hA2 := hA.2.1
  have hb := hA.head hn
  unfold tokR at he hp ⊢
  rw [← hb]
  by_cases c1 : markT (bt s (i : Int)) ≠ 0
  · rw [if_pos c1] at hp ⊢
    rw [if_pos c1]
    simp only at hp ⊢
    rw [show n = 1 by omega]
  · rw [if_neg c1] at he hp ⊢
    rw [if_neg c1]
    by_cases c2 : letterT (bt s (i : Int)) = true
    · rw [if_pos c2] at he hp ⊢
      rw [if_pos c2]
      by_cases c3 : wordK (s.extract i (runEnd wordT s (s.size - i) i)) = 0
      · rw [if_pos c3] at he
        simp at he
      · rw [if_neg c3] at hp ⊢
        simp only at hp ⊢
        rw [run_local wordT s S i j n hA hp (hsw hp), ← hA.extract n (Nat.le_refl _)]
        rw [hp] at c3
        rw [if_neg c3, hp]
    · rw [if_neg c2] at he hp ⊢
      rw [if_neg c2]
      by_cases c4 : digitT (bt s (i : Int)) = true ∨ bt s (i : Int) = 45
      · rw [if_pos c4] at he hp ⊢
        rw [if_pos c4]
        by_cases c5 : formedB (numB (s.extract i (runEnd numT s (s.size - i) i))) = true
        · rw [if_pos c5] at hp ⊢
          simp only at hp ⊢
          rw [run_local numT s S i j n hA hp (hsn hp), ← hA.extract n (Nat.le_refl _)]
          rw [hp] at c5
          rw [if_pos c5, hp]
        · rw [if_neg c5] at he
          simp at he
      · rw [if_neg c4] at he hp ⊢
        rw [if_neg c4]
        by_cases c6 : bt s (i : Int) = 34
        · rw [if_pos c6] at he hp ⊢
          rw [if_pos c6]
          have hS : bt S (j : Int) = 34 := by rw [← hb]; exact c6
          rw [unqAt_at s i hi c6] at he hp ⊢
          rw [unqAt_at S j (by omega) hS]
          by_cases c7 : (unq s s.size (i + 1) []).2.2 = 0
          · rw [if_pos c7] at hp ⊢
            simp only at hp ⊢
            have hr := unq_range s s.size (i + 1) [] (by omega) c7
            have := unq_local s S s.size (i + 1) [] (j + 1) S.size (n - 1) c7 (hA.sub 1 (n - 1) (by omega)) (by omega) (by omega)
            rw [this]
            simp only
            rw [if_pos trivial, show j + 1 + (n - 1) = j + n by omega, Int.toNat_natCast]
          · rw [if_neg c7] at he
            exact absurd he c7
        · rw [if_neg c6] at he
          simp at he


theorem run_stop (p : Int → Bool) {a S : ByteArray} {i n : Nat} (hi : i ≤ a.size) (hA : Agree a S 0 0 a.size) (hst : a.size < S.size → p (bt S (a.size : Int)) = false) (hr : runEnd p a (a.size - i) i = i + n) (hn : i + n < S.size) : p (bt S ((i + n : Nat) : Int)) = false := by
  have hb := runEnd_bounds p a (a.size - i) i hi
  rw [hr] at hb
  by_cases h : i + n < a.size
  · have hs := (runEnd_spec p a (a.size - i) i hi (Nat.le_refl _)).2
    rw [hr] at hs
    have := hA.at (i + n) h
    rw [Nat.zero_add] at this
    rw [← this]
    exact hs h
  · have e : i + n = a.size := by omega
    rw [e] at hn ⊢
    exact hst hn
theorem tok_prefix {a S : ByteArray} {i : Nat} (hi : i < a.size) (he : (tokR a i).e = 0) (hA : Agree a S 0 0 a.size) (hst : a.size < S.size → StopT (bt S (a.size : Int))) : tokR S i = ⟨0, 0, (tokR a i).kind, (tokR a i).pos, (tokR a i).text⟩ := by
  have hrg := tokR_range a i hi he
  obtain ⟨n, hn⟩ : ∃ n, (tokR a i).pos = i + n := ⟨(tokR a i).pos - i, by omega⟩
  have h1 := hA.sub i n (by omega)
  rw [Nat.zero_add] at h1
  have := tok_local_of a S i i n hi he hn h1 (fun hr hlt => run_stop wordT (Nat.le_of_lt hi) hA (fun h => (hst h).word) hr hlt) (fun hr hlt => run_stop numT (Nat.le_of_lt hi) hA (fun h => (hst h).num) hr hlt)
  rw [this, hn]
theorem ahead_first {a S : ByteArray} (hA : Agree a S 0 0 a.size) (hst : a.size < S.size → StopT (bt S (a.size : Int))) : ∀ (f i g : Nat) (toks : List Tok), i ≤ a.size → a.size < i + f → (aheadZ a f i toks).2.1 = 0 → S.size < i + g →
    ∃ g', aheadZ S g i toks = aheadZ S g' a.size (aheadZ a f i toks).1 ∧ S.size < a.size + g'
  | 0, i, g, toks, hi, hf, _, _ => by omega
  | f + 1, i, g, toks, hi, hf, he, hg => by
    have hz : a.size ≤ S.size := by have := hA.2.1; omega
    rw [aheadZ_step a] at he ⊢
    by_cases hp : i < a.size
    · obtain ⟨g, rfl⟩ : ∃ m, g = m + 1 := ⟨g - 1, by omega⟩
      rw [if_pos hp] at he ⊢
      have hb := hA.at i hp
      rw [Nat.zero_add] at hb
      rw [aheadZ_step S, if_pos (show i < S.size by omega), ← hb]
      by_cases c : blankT (bt a (i : Int)) = true
      · rw [if_pos c] at he ⊢
        rw [if_pos c]
        exact ahead_first hA hst f (i + 1) g toks (by omega) (by omega) he (by omega)
      · rw [if_neg c] at he ⊢
        rw [if_neg c]
        by_cases h0 : (tokR a i).e = 0
        · rw [if_pos h0] at he ⊢
          have hrg := tokR_range a i hp h0
          rw [tok_prefix hp h0 hA hst]
          simp only
          rw [if_pos trivial]
          exact ahead_first hA hst f (tokR a i).pos g _ (by omega) (by omega) he (by omega)
        · rw [if_neg h0] at he
          exact absurd he h0
    · rw [if_neg hp]
      obtain rfl : i = a.size := by omega
      exact ⟨g, rfl, hg⟩

/-- the two texts -/
def joined (a b : ByteArray) : ByteArray := (a ++ (⟨#[10]⟩ : ByteArray)) ++ b
theorem joined_list (a b : ByteArray) : (joined a b).data.toList = a.data.toList ++ (10 :: b.data.toList) := by
  unfold joined
  rw [ByteArray.data_append, Array.toList_append, ByteArray.data_append, Array.toList_append]
  simp
theorem joined_size (a b : ByteArray) : (joined a b).size = a.size + 1 + b.size := by
  rw [Lib.size_eq, joined_list, List.length_append, List.length_cons, ← Lib.size_eq, ← Lib.size_eq]
  omega
theorem joined_agree (a b : ByteArray) : Agree a (joined a b) 0 0 a.size := by
  have h := agree_of_drop a (joined a b) 0 0 a.size (10 :: b.data.toList) (by
    rw [List.drop_zero, joined_list, Nat.zero_add, Lib.extract_data, List.drop_zero, Nat.sub_zero, List.take_of_length_le (by rw [← Lib.size_eq]; exact Nat.le_refl _)]) (by omega) (Nat.zero_le _)
  exact h
theorem joined_mid (a b : ByteArray) : bt (joined a b) (a.size : Int) = 10 := by
  have h := drop_bt (joined a b) a.size 10 b.data.toList (by rw [joined_list, Lib.size_eq, List.drop_left])
  rw [h.2.1]
  rfl
theorem joined_rest (a b : ByteArray) : SameRest b (joined a b) 0 (a.size + 1) := by
  refine ⟨Nat.zero_le _, by rw [joined_size]; omega, ?_⟩
  have h := drop_bt (joined a b) a.size 10 b.data.toList (by rw [joined_list, Lib.size_eq, List.drop_left])
  rw [List.drop_zero, h.2.2]
theorem joined_scan (a b : ByteArray) (ha : (aheadZ a (a.size + 1) 0 []).2.1 = 0) :
    (aheadZ (joined a b) ((joined a b).size + 1) 0 []).2.1 = (aheadZ b (b.size + 1) 0 []).2.1 ∧ (aheadZ (joined a b) ((joined a b).size + 1) 0 []).1 = (aheadZ a (a.size + 1) 0 []).1 ++ shiftT ((a.size : Int) + 1) (aheadZ b (b.size + 1) 0 []).1 := by
  have hz := joined_size a b
  obtain ⟨g, h1, h2⟩ := ahead_first (joined_agree a b) (fun _ => Or.inr (Or.inr (Or.inl (joined_mid a b)))) (a.size + 1) 0 ((joined a b).size + 1) [] (Nat.zero_le _) (by omega) ha (by omega)
  obtain ⟨g, rfl⟩ : ∃ m, g = m + 1 := ⟨g - 1, by omega⟩
  rw [h1, aheadZ_step (joined a b), if_pos (by omega), joined_mid, if_pos (by decide)]
  obtain ⟨new, n1, n2, n3⟩ := ahead_rest (b.size + 1) 0 [] (aheadZ a (a.size + 1) 0 []).1 (a.size + 1) g (joined_rest a b) (by omega) (by omega)
  rw [n3, n2, n1, List.nil_append]
  refine ⟨rfl, ?_⟩
  rw [show (((a.size + 1 : Nat) : Int) - ((0 : Nat) : Int)) = (a.size : Int) + 1 by omega]

theorem places_mem (s : ByteArray) : ∀ (l : List Tok) (a : Nat), placesP s l a → ∀ t ∈ l, 0 ≤ t.f1 ∧ t.f1 ≤ s.size ∧ 0 ≤ t.f2 ∧ t.f2 ≤ s.size
  | [], a, h, t, ht => by cases ht
  | u :: l, a, ⟨i, p, e1, e2, h1, h2, h3, h4, h5⟩, t, ht => by
    rcases List.mem_cons.1 ht with rfl | ht
    · omega
    · exact places_mem s l p h5 t ht

theorem own_under {w w' : World} {base : Nat} {e : TypeId} {size : Nat} {v : Value} {n : Nat} {xs : List Value} (h : w.ownsRow base e size v n xs) (hb : Below w.heap.size w w') : w'.ownsRow base e size v n xs :=
  own_move h fun k hk => hb.block k (own_lt h k hk)
theorem shiftT_snoc (c : Int) (l : List Tok) (t : Tok) : shiftT c (l ++ [t]) = shiftT c l ++ [⟨t.f0, t.f1 + c, t.f2 + c, t.f3⟩] := by simp [shiftT]
theorem shiftT_len (c : Int) (l : List Tok) : (shiftT c l).length = l.length := by simp [shiftT]
theorem take_snoc_tok (L : List Tok) (d : Nat) (h : d < L.length) : L.take (d + 1) = L.take d ++ [L[d]] := by
  rw [List.take_succ_eq_append_getElem h]

/-- what the law's scans answer -/
theorem joins_told (a0 a1 : ByteArray) (h0 : a0.size ≤ 1048576) (h1 : a1.size ≤ 1048576) (A B Z : List Tok) (e p f q g z : Int) (hA : tscanR a0 = (A, e, p)) (hB : tscanR a1 = (B, f, q)) (hZ : tscanR (joined a0 a1) = (Z, g, z)) :
    e ≠ 0 ∨ (e = 0 ∧ f ≠ 0 ∧ g ≠ 0) ∨ (e = 0 ∧ f = 0 ∧ g = 0 ∧ A.length ≤ 1048576 ∧ B.length ≤ 1048576 ∧ (∀ t ∈ B, 0 ≤ t.f1 ∧ t.f1 ≤ 1048576 ∧ 0 ≤ t.f2 ∧ t.f2 ≤ 1048576) ∧ Z = A ++ shiftT ((a0.size : Int) + 1) B) := by
  by_cases he : e = 0
  · have e1 : (tscanR a0).2.1 = 0 := by rw [hA]; exact he
    obtain ⟨x1, x2⟩ := tscan_ok a0 e1
    obtain ⟨j1, j2⟩ := joined_scan a0 a1 x1
    obtain ⟨A', nA1, nA2, nA3⟩ := ahead_places a0 (a0.size + 1) 0 [] 0 (by omega) (by omega) x1 (Nat.le_refl _) (fun j h1 h2 => by omega)
    by_cases hf : f = 0
    · have f1 : (tscanR a1).2.1 = 0 := by rw [hB]; exact hf
      obtain ⟨y1, y2⟩ := tscan_ok a1 f1
      obtain ⟨B', nB1, nB2, nB3⟩ := ahead_places a1 (a1.size + 1) 0 [] 0 (by omega) (by omega) y1 (Nat.le_refl _) (fun j h1 h2 => by omega)
      have g0 : (tscanR (joined a0 a1)).2.1 = 0 := by
        unfold tscanR
        rw [if_pos (by rw [j1]; exact y1)]
      obtain ⟨z1, z2⟩ := tscan_ok (joined a0 a1) g0
      rw [hA] at x2
      rw [hB] at y2
      rw [hZ] at z2 g0
      simp only at x2 y2 z2 g0
      rw [j2, ← x2, ← y2] at z2
      rw [nA1, List.nil_append] at x2
      rw [nB1, List.nil_append] at y2
      have hm := places_mem a1 B' 0 nB2
      subst x2 y2
      exact Or.inr (Or.inr ⟨he, hf, g0, by omega, by omega, fun t ht => by have := hm t ht; omega, z2⟩)
    · refine Or.inr (Or.inl ⟨he, hf, ?_⟩)
      have hy : (aheadZ a1 (a1.size + 1) 0 []).2.1 ≠ 0 := by
        intro c
        apply hf
        have : (tscanR a1).2.1 = 0 := by
          unfold tscanR
          rw [if_pos c]
        rw [hB] at this
        exact this
      have hg : (tscanR (joined a0 a1)).2.1 ≠ 0 := by
        unfold tscanR
        rw [if_neg (by rw [j1]; exact hy)]
        simp only
        rw [j1]
        exact hy
      rw [hZ] at hg
      exact hg
  · exact Or.inl he

set_option maxHeartbeats 16000000 in
set_option maxRecDepth 100000 in
theorem joins_calls (a0 a1 : ByteArray) (h0 : a0.size ≤ 1048576) (h1 : a1.size ≤ 1048576) (w : World) (hT : Tabs w) :
    Calls Tryd.prog 7 #[.string a0, .string a1] w fun e w' => e = .returned (.bool true) ∧ Below w.heap.size w w' := by
  obtain ⟨i0, hi0, hz0, hz1, hz2⟩ := info_parts info31
  have HI := Lib.hid hi0
  have HZ0 := Lib.hid hz0
  have HZ1 := Lib.hid hz1
  have HZ2 := Lib.hid hz2
  clear hi0 hz0 hz1 hz2
  have hsz := joined_size a0 a1
  have hK := fun W (hW : Tabs W) => hallmarklaw04_TokenKnown.calls 30 true W hW (tknown_at 30 (Nat.le_refl _))
  obtain ⟨⟨A, e, p⟩, hA⟩ : ∃ R, tscanR a0 = R := ⟨_, rfl⟩
  obtain ⟨⟨B, f, q⟩, hB⟩ : ∃ R, tscanR a1 = R := ⟨_, rfl⟩
  obtain ⟨⟨Z, g, z⟩, hZ⟩ : ∃ R, tscanR (joined a0 a1) = R := ⟨_, rfl⟩
  have htold := joins_told a0 a1 h0 h1 A B Z e p f q g z hA hB hZ
  have hS1 := fun W (hW : Tabs W) => token_Scan.calls a0 A e p W hW (by rw [tscan_f a0 (by omega), hA])
  have hS2 := fun W (hW : Tabs W) => token_Scan.calls a1 B f q W hW (by rw [tscan_f a1 (by omega), hB])
  have hS3 := fun W (hW : Tabs W) => token_Scan.calls ((a0 ++ (⟨#[10]⟩ : ByteArray)) ++ a1) Z g z W hW (by rw [show ((a0 ++ (⟨#[10]⟩ : ByteArray)) ++ a1) = joined a0 a1 from rfl, tscan_f (joined a0 a1) (by omega), hZ])
  have HT := Lib.hid hT
  have HK := Lib.hid hK
  have HS1 := Lib.hid hS1
  have HS2 := Lib.hid hS2
  have HS3 := Lib.hid hS3
  clear hT hK hS1 hS2 hS3 hA hB hZ hsz
  rcases htold with he | ⟨he, hf, hg⟩ | ⟨he, hf, hg, hla, hlb, hmB, hZ⟩
  · have he' : (e != 0) = true := bne_iff_ne.2 he
    clear he
    go_enter Tryd.func7, Tryd.ntmps7
    have hq1 : a0.size + 1 ≤ 9223372036854775807 := by omega
    have hq2 : a0.size + 1 + a1.size ≤ 9223372036854775807 := by omega
    go_wp2_with (first
      | (go_at_call 3; (with_reducible refine (HK.out _ HT.out).mono ?_); rintro e1 w1 ⟨rfl, hb1⟩; have HB1 := Lib.hid hb1; clear hb1)
      | (go_at_call 8; (with_reducible refine (HS1.out _ (HT.out.below HB1.out)).mono ?_); rintro e2 w2 ⟨v, rfl, hR, hb2⟩; have HRA := Lib.hid hR; clear hR; obtain ⟨AA, ca, rfl⟩ := Kd.R_slice HRA.out; have HB2 := Lib.hid (HB1.out.trans (hb2.mono HB1.out.size)); clear hb2 HS1)
      | (go_at_call 8; (with_reducible refine (HS2.out _ (HT.out.below HB2.out)).mono ?_); rintro e3 w3 ⟨v, rfl, hR, hb3⟩; have HRB := Lib.hid hR; have HRA3 := Lib.hid (Kd.R_below HRA.out hb3); clear hR; obtain ⟨AB, cb, rfl⟩ := Kd.R_slice HRB.out; have HB3 := Lib.hid (HB2.out.trans (hb3.mono HB2.out.size)); clear hb3 HS2 HRA)
      | (go_at_call 8; (with_reducible refine (HS3.out _ (HT.out.below HB3.out)).mono ?_); rintro e4 w4 ⟨v, rfl, hR, hb4⟩; have HRZ := Lib.hid hR; have HRA4 := Lib.hid (Kd.R_below HRA3.out hb4); have HRB4 := Lib.hid (Kd.R_below HRB.out hb4); clear hR; obtain ⟨AZ, cz, rfl⟩ := Kd.R_slice HRZ.out; have HB4 := Lib.hid (HB3.out.trans (hb4.mono HB3.out.size)); clear hb4 HS3 HRB HRA3))
    go_ret
    exact ⟨rfl, HB4.out⟩
  · subst he
    have hf' : (f != 0) = true := bne_iff_ne.2 hf
    have hg' : (g != 0) = true := bne_iff_ne.2 hg
    clear hf hg
    go_enter Tryd.func7, Tryd.ntmps7
    have hq1 : a0.size + 1 ≤ 9223372036854775807 := by omega
    have hq2 : a0.size + 1 + a1.size ≤ 9223372036854775807 := by omega
    go_wp2_with (first
      | (go_at_call 3; (with_reducible refine (HK.out _ HT.out).mono ?_); rintro e1 w1 ⟨rfl, hb1⟩; have HB1 := Lib.hid hb1; clear hb1)
      | (go_at_call 8; (with_reducible refine (HS1.out _ (HT.out.below HB1.out)).mono ?_); rintro e2 w2 ⟨v, rfl, hR, hb2⟩; have HRA := Lib.hid hR; clear hR; obtain ⟨AA, ca, rfl⟩ := Kd.R_slice HRA.out; have HB2 := Lib.hid (HB1.out.trans (hb2.mono HB1.out.size)); clear hb2 HS1)
      | (go_at_call 8; (with_reducible refine (HS2.out _ (HT.out.below HB2.out)).mono ?_); rintro e3 w3 ⟨v, rfl, hR, hb3⟩; have HRB := Lib.hid hR; have HRA3 := Lib.hid (Kd.R_below HRA.out hb3); clear hR; obtain ⟨AB, cb, rfl⟩ := Kd.R_slice HRB.out; have HB3 := Lib.hid (HB2.out.trans (hb3.mono HB2.out.size)); clear hb3 HS2 HRA)
      | (go_at_call 8; (with_reducible refine (HS3.out _ (HT.out.below HB3.out)).mono ?_); rintro e4 w4 ⟨v, rfl, hR, hb4⟩; have HRZ := Lib.hid hR; have HRA4 := Lib.hid (Kd.R_below HRA3.out hb4); have HRB4 := Lib.hid (Kd.R_below HRB.out hb4); clear hR; obtain ⟨AZ, cz, rfl⟩ := Kd.R_slice HRZ.out; have HB4 := Lib.hid (HB3.out.trans (hb4.mono HB3.out.size)); clear hb4 HS3 HRB HRA3))
    go_ret
    exact ⟨rfl, HB4.out⟩
  · subst he hf hg
    have HZZ := Lib.hid hZ
    have HMB := Lib.hid hmB
    clear hZ hmB
    go_enter Tryd.func7, Tryd.ntmps7
    have hq1 : a0.size + 1 ≤ 9223372036854775807 := by omega
    have hq2 : a0.size + 1 + a1.size ≤ 9223372036854775807 := by omega
    go_wp2_with (first
      | (go_at_call 3; (with_reducible refine (HK.out _ HT.out).mono ?_); rintro e1 w1 ⟨rfl, hb1⟩; have HB1 := Lib.hid hb1; clear hb1)
      | (go_at_call 8; (with_reducible refine (HS1.out _ (HT.out.below HB1.out)).mono ?_); rintro e2 w2 ⟨v, rfl, hR, hb2⟩; have HRA := Lib.hid hR; clear hR; obtain ⟨AA, ca, rfl⟩ := Kd.R_slice HRA.out; have HB2 := Lib.hid (HB1.out.trans (hb2.mono HB1.out.size)); clear hb2 HS1)
      | (go_at_call 8; (with_reducible refine (HS2.out _ (HT.out.below HB2.out)).mono ?_); rintro e3 w3 ⟨v, rfl, hR, hb3⟩; have HRB := Lib.hid hR; have HRA3 := Lib.hid (Kd.R_below HRA.out hb3); clear hR; obtain ⟨AB, cb, rfl⟩ := Kd.R_slice HRB.out; have HB3 := Lib.hid (HB2.out.trans (hb3.mono HB2.out.size)); clear hb3 HS2 HRA)
      | (go_at_call 8; (with_reducible refine (HS3.out _ (HT.out.below HB3.out)).mono ?_); rintro e4 w4 ⟨v, rfl, hR, hb4⟩; have HRZ := Lib.hid hR; have HRA4 := Lib.hid (Kd.R_below HRA3.out hb4); have HRB4 := Lib.hid (Kd.R_below HRB.out hb4); clear hR; obtain ⟨AZ, cz, rfl⟩ := Kd.R_slice HRZ.out; have HB4 := Lib.hid (HB3.out.trans (hb4.mono HB3.out.size)); clear hb4 HS3 HRB HRA3))
    have hlal : ((A.length : Nat) : Int) ≤ 1048576 := by omega
    have hlbl : ((B.length : Nat) : Int) ≤ 1048576 := by omega
    go_loopg [14, 15] A.length (fun g v14 v15 wx => ∃ (d : Nat) (vo : Value), vo = v14 ∧ v15 = .int .i64 d ∧ d + g = A.length ∧ Hid (wx.ownsRow w4.heap.size 31 4 vo d (toksCells (A.take d))) ∧ Hid (Below w4.heap.size w4 wx))
    case atStart => exact ⟨0, _, rfl, rfl, by omega, own_nil _ _ _ _, Below.refl _ _⟩
    case round =>
      obtain ⟨d, vo, hvo, rfl, hdg, hown, hbw⟩ := hrel
      subst hvo
      cases gk with
      | succ g =>
        have hlt : d < A.length := by omega
        have hdl : ((d : Int) < (A.length : Int)) := by omega
        have hd0 : (0 : Int) ≤ (d : Int) := by omega
        obtain ⟨ad, hAd, hx0, hx1, hx2, hx3⟩ := at_T31 (Kd.R_reads' HRA4.out).2.2 d hd0 hdl
        subst hAd
        rw [rd_tok A d hlt] at hx0 hx1 hx2 hx3
        have htk := take_snoc_tok A d hlt
        obtain ⟨t, ht⟩ : ∃ t, A[d] = t := ⟨_, rfl⟩
        rw [ht] at hx0 hx1 hx2 hx3 htk
        clear ht
        obtain ⟨k, x1, x2, tx⟩ := t
        simp only at hx0 hx1 hx2 hx3
        have y0 := tabs_cell hbw.out hx0
        have y1 := tabs_cell hbw.out hx1
        have y2 := tabs_cell hbw.out hx2
        have y3 := tabs_cell hbw.out hx3
        rw [Int.toNat_natCast] at y0 y1 y2 y3
        clear hx0 hx1 hx2 hx3
        have HTK := Lib.hid htk
        have hbs := hbw.out.size
        clear htk
        go_wp2_with (at_builtin; go_must (refine wpList_append_own _ rfl (.tmp 59) (.tmp 64) 22 rfl w4.heap.size 31 i0 _ 4 40 Tryd.underlying22 HI.out HZ0.out HZ1.out HZ2.out rfl (by decide) vo d (toksCells (A.take d)) rfl ?c0 _ 1 1 [.int .i64 k, .int .i64 x1, .int .i64 x2, .string tx] rfl rfl ?c1 ?c2 ?c3 ?c4 ?c5 ?_; (case c0 => exact hown.out.alloc _); (case c1 => exact World.news_of_block (cs := #[.int .i64 k, .int .i64 x1, .int .i64 x2, .string tx]) (t := 31) (fr := (0, 0)) (heap_alloc_new wr _)); (case c2 => simp [Value.oneCell']); (case c3 => unfold maxLen; omega); (case c4 => omega); (case c5 => simp; omega); intro v8 w8 hown8 hg8 _; have HO8 := Lib.hid hown8; have HG8 := Lib.hid hg8; clear hown8 hg8))
        go_roundg g
        case measure => omega
        case rel =>
          refine ⟨d + 1, v8, rfl, by go_num, by omega, ?_, ?_⟩
          · show World.ownsRow _ _ _ _ _ _ _
            rw [HTK.out, toksCells_snoc]
            exact HO8.out
          · exact (hbw.out.alloc hbs _).grown HG8.out (by simp; omega) (fun k hk => own_base hown.out k hk)
      | zero =>
        have hd : d = A.length := by omega
        have hdl : ¬ ((d : Int) < (A.length : Int)) := by omega
        subst hd
        rw [List.take_length] at hown
        go_wp2
        obtain ⟨W5, hW5⟩ : ∃ x, wr = x := ⟨_, rfl⟩
        subst hW5
        go_loopg [14, 16] B.length (fun g v14 v16 wx => ∃ (d : Nat) (vo : Value), vo = v14 ∧ v16 = .int .i64 d ∧ d + g = B.length ∧ Hid (wx.ownsRow w4.heap.size 31 4 vo (A.length + d) (toksCells (A ++ shiftT ((a0.size : Int) + 1) (B.take d)))) ∧ Hid (Below w4.heap.size w4 wx))
        case atStart => exact ⟨0, _, rfl, rfl, by omega, by rw [List.take_zero, show shiftT ((a0.size : Int) + 1) [] = [] from rfl, List.append_nil]; exact hown, hbw⟩
        case round =>
          clear hown hbw
          obtain ⟨d, vo, hvo, rfl, hdg, hown, hbw⟩ := hrel
          subst hvo
          cases gk with
          | succ g =>
            have hlt : d < B.length := by omega
            have hdl : ((d : Int) < (B.length : Int)) := by omega
            have hd0 : (0 : Int) ≤ (d : Int) := by omega
            obtain ⟨ad, hAd, hx0, hx1, hx2, hx3⟩ := at_T31 (Kd.R_reads' HRB4.out).2.2 d hd0 hdl
            subst hAd
            rw [rd_tok B d hlt] at hx0 hx1 hx2 hx3
            have htk := take_snoc_tok B d hlt
            have hmt := HMB.out _ (List.getElem_mem hlt)
            obtain ⟨t, ht⟩ : ∃ t, B[d] = t := ⟨_, rfl⟩
            rw [ht] at hx0 hx1 hx2 hx3 htk hmt
            clear ht
            obtain ⟨k, x1, x2, tx⟩ := t
            simp only at hx0 hx1 hx2 hx3 hmt
            obtain ⟨m1, m2, m3, m4⟩ := hmt
            have y0 := tabs_cell hbw.out hx0
            have y1 := tabs_cell hbw.out hx1
            have y2 := tabs_cell hbw.out hx2
            have y3 := tabs_cell hbw.out hx3
            rw [Int.toNat_natCast] at y0 y1 y2 y3
            clear hx0 hx1 hx2 hx3
            have HTK := Lib.hid htk
            have hbs := hbw.out.size
            clear htk
            go_wp2_with (at_builtin; go_must (refine wpList_append_own _ rfl (.tmp 90) (.tmp 92) 22 rfl w4.heap.size 31 i0 _ 4 40 Tryd.underlying22 HI.out HZ0.out HZ1.out HZ2.out rfl (by decide) vo (A.length + d) (toksCells (A ++ shiftT ((a0.size : Int) + 1) (B.take d))) rfl ?c0 _ 1 1 [.int .i64 k, .int .i64 (x1 + (a0.size : Int) + 1), .int .i64 (x2 + (a0.size : Int) + 1), .string tx] rfl rfl ?c1 ?c2 ?c3 ?c4 ?c5 ?_; (case c0 => exact (hown.out.alloc _).alloc _); (case c1 => exact World.news_of_block (cs := #[.int .i64 k, .int .i64 (x1 + (a0.size : Int) + 1), .int .i64 (x2 + (a0.size : Int) + 1), .string tx]) (t := 31) (fr := (0, 0)) (by simpa using heap_alloc_new (wr.alloc (.cells #[.int .i64 k, .int .i64 (x1 + (a0.size : Int) + 1), .int .i64 (x2 + (a0.size : Int) + 1), .string tx] 31)) (.cells #[.int .i64 k, .int .i64 (x1 + (a0.size : Int) + 1), .int .i64 (x2 + (a0.size : Int) + 1), .string tx] 31))); (case c2 => simp [Value.oneCell']); (case c3 => unfold maxLen; omega); (case c4 => omega); (case c5 => simp; omega); intro v8 w8 hown8 hg8 _; have HO8 := Lib.hid hown8; have HG8 := Lib.hid hg8; clear hown8 hg8))
            go_roundg g
            case measure => omega
            case rel =>
              refine ⟨d + 1, v8, rfl, by go_num, by omega, ?_, ?_⟩
              · show World.ownsRow _ _ _ _ _ _ _
                rw [HTK.out, shiftT_snoc, ← List.append_assoc, toksCells_snoc, ← Nat.add_assoc]
                have e1 : (x1 + ((a0.size : Int) + 1)) = x1 + (a0.size : Int) + 1 := by omega
                have e2 : (x2 + ((a0.size : Int) + 1)) = x2 + (a0.size : Int) + 1 := by omega
                simp only [e1, e2]
                exact HO8.out
              · exact ((hbw.out.alloc hbs _).alloc (by simp; omega) _).grown HG8.out (by simp; omega) (fun k hk => own_base hown.out k hk)
          | zero =>
            have hd : d = B.length := by omega
            have hdl : ¬ ((d : Int) < (B.length : Int)) := by omega
            subst hd
            rw [List.take_length, ← HZZ.out] at hown
            have hzl : Z.length = A.length + B.length := by rw [HZZ.out, List.length_append, shiftT_len]
            obtain ⟨A1, c1, rfl⟩ := own_slice hown.out
            have HRW : Hid (Kd.R k31 31 wr w4.heap.size (fun _ => True) (.slice A1 (A.length + B.length) c1) Z) := by
              show Kd.R _ _ _ _ _ _ _
              exact toks_R (by rw [hzl]; exact hown.out)
            have HRZ5 := Lib.hid (Kd.R_below HRZ.out hbw.out)
            have HB5 := Lib.hid (HB4.out.trans (hbw.out.mono HB4.out.size))
            obtain ⟨q1, q2, q3⟩ := Kd.R_reads' HRZ5.out
            obtain ⟨q4, q5, q6⟩ := Kd.R_reads' HRW.out
            have hsm := same_tokens Z (by omega) (Z.length + 1) (by omega)
            have hst := hallmarkkit_SameTokens.calls (Z.length + 1) AZ cz Z A1 c1 Z true wr q3 q2 q6 (by omega) hsm
            have HST := Lib.hid hst
            rw [← hzl]
            clear q1 q2 q3 q4 q5 q6 hst hsm hzl
            go_wp2_with (go_at_call 9; go_must ((with_reducible refine HST.out.mono ?_); rintro e5 w5 ⟨rfl, hb5⟩; have HB6 := Lib.hid (HB5.out.trans (hb5.mono HB5.out.size)); clear hb5))
            go_ret
            exact ⟨rfl, HB6.out⟩
end Go.Proofs.YtkfcoikfhpabmaaDoor.U
