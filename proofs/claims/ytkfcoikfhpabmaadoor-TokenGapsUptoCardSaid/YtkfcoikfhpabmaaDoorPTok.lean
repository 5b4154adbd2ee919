/- Plain law: the examples of token's chapter; tokens that are the same. -/
import Derived.Test.YtkfcoikfhpabmaaDoorUL4x1
namespace Go.Proofs.YtkfcoikfhpabmaaDoor.U
open Go.RowKit Go.Proofs.YtkfcoikfhpabmaaDoorW.PrintWords
set_option linter.unusedSimpArgs false
set_option linter.unusedVariables false

theorem tknown_30 : hallmarklaw04_TokenKnown.f 30 = some true := by kernel_rfl
theorem tknown_ok : ∀ n, hallmarklaw04_TokenKnown.f (n + 30) = some true
  | 0 => tknown_30
  | n + 1 => hallmarklaw04_TokenKnown.mono (n + 30) true (tknown_ok n)
theorem tknown_at (k : Nat) (h : 30 ≤ k) : hallmarklaw04_TokenKnown.f k = some true := by
  obtain ⟨n, rfl⟩ : ∃ n, k = n + 30 := ⟨k - 30, by omega⟩
  exact tknown_ok n
theorem pure_TokenKnown : ∃ k, hallmarklaw04_TokenKnown.f k = some true := ⟨30, tknown_30⟩

theorem rd_tok (l : List Tok) (i : Nat) (h : i < l.length) : rd_T31 l (i : Int) = l[i] := by
  unfold rd_T31
  rw [Int.toNat_natCast, List.getD_eq_getElem?_getD, List.getElem?_eq_getElem h]
  rfl
theorem same_tok (t : Tok) : hallmarkkit_SameToken.f t.f0 t.f1 t.f2 t.f3 t.f0 t.f1 t.f2 t.f3 = some true := by
  unfold hallmarkkit_SameToken.f
  rw [if_pos rfl, if_pos rfl, if_pos rfl, if_pos rfl]
theorem same_loop (L : List Tok) (hL : L.length ≤ 1099511627776) : ∀ (n i k : Nat), i + n = L.length → n < k → hallmarkkit_SameTokens.l0 k L L (i : Int) = some true
  | 0, i, k, hi, hk => by
    obtain ⟨k, rfl⟩ : ∃ m, k = m + 1 := ⟨k - 1, by omega⟩
    rw [hallmarkkit_SameTokens.l0, if_neg (by omega)]
  | n + 1, i, k, hi, hk => by
    obtain ⟨k, rfl⟩ : ∃ m, k = m + 1 := ⟨k - 1, by omega⟩
    have hw : wrap64 ((i : Int) + 1) = ((i + 1 : Nat) : Int) := by unfold wrap64; omega
    rw [hallmarkkit_SameTokens.l0, if_pos (by omega), if_pos (by omega), if_pos (by omega), same_tok, Option.bind_some, if_pos rfl, hw]
    exact same_loop L hL n (i + 1) k (by omega) (by omega)
theorem same_tokens (L : List Tok) (hL : L.length ≤ 1099511627776) (k : Nat) (hk : L.length < k) : hallmarkkit_SameTokens.f k L L = some true := by
  unfold hallmarkkit_SameTokens.f
  rw [if_pos rfl]
  exact same_loop L hL L.length 0 k (by omega) hk
theorem tscan_f (s : ByteArray) (hs : s.size ≤ 1073741824) : token_Scan.f s = some (tscanR s) := by
  unfold token_Scan.f
  rw [if_pos hs]
theorem tscan_bad (s : ByteArray) (h : (tscanR s).2.1 ≠ 0) : (tscanR s).1 = [] := by
  unfold tscanR at h ⊢
  split
  · rename_i e
    rw [if_pos e] at h
    exact absurd rfl h
  · rfl
theorem tscan_ok (s : ByteArray) (h : (tscanR s).2.1 = 0) : (aheadZ s (s.size + 1) 0 []).2.1 = 0 ∧ (tscanR s).1 = (aheadZ s (s.size + 1) 0 []).1 := by
  unfold tscanR at h ⊢
  by_cases e : (aheadZ s (s.size + 1) 0 []).2.1 = 0
  · rw [if_pos e]
    exact ⟨e, rfl⟩
  · rw [if_neg e] at h
    exact absurd h e
def placesP (s : ByteArray) : List Tok → Nat → Prop
  | [], a => ∀ j : Nat, a ≤ j → j < s.size → blankT (bt s (j : Int)) = true
  | t :: l, a => ∃ i p : Nat, t.f1 = i ∧ t.f2 = p ∧ a ≤ i ∧ i < p ∧ p ≤ s.size ∧ (∀ j : Nat, a ≤ j → j < i → blankT (bt s (j : Int)) = true) ∧ placesP s l p
theorem ahead_places (s : ByteArray) : ∀ (f i : Nat) (toks : List Tok) (a : Nat), i ≤ s.size → s.size < i + f → (aheadZ s f i toks).2.1 = 0 → a ≤ i → (∀ j : Nat, a ≤ j → j < i → blankT (bt s (j : Int)) = true) →
    ∃ new, (aheadZ s f i toks).1 = toks ++ new ∧ placesP s new a ∧ new.length + i ≤ s.size
  | 0, i, toks, a, hi, hf, _, _, _ => by omega
  | f + 1, i, toks, a, hi, hf, he, ha, hb => by
    rw [aheadZ_step] at he ⊢
    by_cases hp : i < s.size
    · rw [if_pos hp] at he ⊢
      by_cases hbl : blankT (bt s (i : Int)) = true
      · rw [if_pos hbl] at he ⊢
        obtain ⟨new, h1, h2, h3⟩ := ahead_places s f (i + 1) toks a (by omega) (by omega) he (by omega) (fun j h1 h2 => by
          by_cases e : j = i
          · rw [e]; exact hbl
          · exact hb j h1 (by omega))
        exact ⟨new, h1, h2, by omega⟩
      · rw [if_neg hbl] at he ⊢
        by_cases h0 : (tokR s i).e = 0
        · rw [if_pos h0] at he ⊢
          have hrg := tokR_range s i hp h0
          obtain ⟨new, h1, h2, h3⟩ := ahead_places s f (tokR s i).pos _ (tokR s i).pos (by omega) (by omega) he (Nat.le_refl _) (fun j h1 h2 => by omega)
          exact ⟨⟨(tokR s i).kind, i, (tokR s i).pos, (tokR s i).text⟩ :: new, by rw [h1]; simp, ⟨i, (tokR s i).pos, rfl, rfl, ha, hrg.1, hrg.2, hb, h2⟩, by rw [List.length_cons]; omega⟩
        · rw [if_neg h0] at he
          exact absurd he h0
    · rw [if_neg hp] at he ⊢
      exact ⟨[], by simp, fun j h1 h2 => hb j h1 (by omega), by simp; omega⟩

end Go.Proofs.YtkfcoikfhpabmaaDoor.U
