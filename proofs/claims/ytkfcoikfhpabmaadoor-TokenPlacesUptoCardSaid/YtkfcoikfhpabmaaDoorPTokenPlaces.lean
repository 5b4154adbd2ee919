/- Plain law: tokens stand one behind the other, and between them are blanks alone. -/
import Derived.Test.YtkfcoikfhpabmaaDoorUL4x2
import Derived.Test.YtkfcoikfhpabmaaDoorPTok
namespace Go.Proofs.YtkfcoikfhpabmaaDoor.U
open Go.RowKit Go.Proofs.YtkfcoikfhpabmaaDoorW.PrintWords
set_option linter.unusedSimpArgs false
set_option linter.unusedVariables false

theorem blanks_loop (s : ByteArray) (L : List Tok) (a i : Int) (tz : Nat) (hto : tz ≤ s.size) (hs : s.size ≤ 1073741824) : ∀ (n j k : Nat), j + n = tz → (∀ m : Nat, j ≤ m → m < tz → blankT (bt s (m : Int)) = true) →
    hallmarklaw04_TokenPlaces.l1 (k + n) s L a i (tz : Int) (j : Int) = hallmarklaw04_TokenPlaces.l1 k s L a i (tz : Int) (tz : Int)
  | 0, j, k, hj, hb => by
    obtain rfl : j = tz := by omega
    rfl
  | n + 1, j, k, hj, hb => by
    have hw : wrap64 ((j : Int) + 1) = ((j + 1 : Nat) : Int) := by unfold wrap64; omega
    have ih := blanks_loop s L a i tz hto hs n (j + 1) k (by omega) (fun m h1 h2 => hb m (by omega) h2)
    have hbl := hb j (Nat.le_refl _) (by omega)
    rw [show k + (n + 1) = (k + n) + 1 by omega, hallmarklaw04_TokenPlaces.l1, if_pos (by omega), if_pos (by omega), if_pos (by omega), hw, ih]
    unfold blankT at hbl
    simp only [Bool.or_eq_true, beq_iff_eq] at hbl
    by_cases c1 : bt s (j : Int) = 32
    · rw [if_pos c1]
    rw [if_neg c1]
    by_cases c2 : bt s (j : Int) = 9
    · rw [if_pos c2]
    rw [if_neg c2]
    by_cases c3 : bt s (j : Int) = 10
    · rw [if_pos c3]
    rw [if_neg c3, if_pos (by omega)]

theorem places_loop (s : ByteArray) (hs : s.size ≤ 1048576) (L : List Tok) (hL : L.length ≤ 1048576) : ∀ (n i a k : Nat), i + n = L.length → placesP s (L.drop i) a → a ≤ s.size → 5 * (n + 1) + (s.size - a) + 2 ≤ k → hallmarklaw04_TokenPlaces.l0 k s L (a : Int) (i : Int) = some true
  | 0, i, a, k, hi, hp, ha, hk => by
    obtain ⟨k, rfl⟩ : ∃ m, k = (m + 2 + (s.size - a)) + 3 := ⟨k - 5 - (s.size - a), by omega⟩
    have hw : wrap64 ((i : Int) + 1) = ((i + 1 : Nat) : Int) := by unfold wrap64; omega
    rw [List.drop_eq_nil_of_le (by omega)] at hp
    rw [show k + 2 + (s.size - a) + 3 = (k + 2 + (s.size - a) + 2) + 1 by omega, hallmarklaw04_TokenPlaces.l0, if_pos (by omega), if_neg (by omega), show k + 2 + (s.size - a) + 2 = (k + 2 + (s.size - a) + 1) + 1 by omega, hallmarklaw04_TokenPlaces.j1, if_neg (by omega), decide_eq_false (by omega), hallmarklaw04_TokenPlaces.j2, if_neg (by decide),
      blanks_loop s L a i s.size (Nat.le_refl _) (by omega) (s.size - a) a (k + 2) (by omega) (fun m h1 h2 => hp m h1 h2), hallmarklaw04_TokenPlaces.l1, if_neg (by omega), if_neg (by omega), hw, hallmarklaw04_TokenPlaces.l0, if_neg (by omega)]
  | n + 1, i, a, k, hi, hp, ha, hk => by
    have hlt : i < L.length := by omega
    have hr := rd_tok L i hlt
    have hw : wrap64 ((i : Int) + 1) = ((i + 1 : Nat) : Int) := by unfold wrap64; omega
    rw [List.drop_eq_getElem_cons hlt] at hp
    obtain ⟨t, ht⟩ : ∃ t, L[i] = t := ⟨_, rfl⟩
    rw [ht] at hr hp
    obtain ⟨i1, p, e1, e2, h1, h2, h3, h4, h5⟩ := hp
    have ih := fun K hK => places_loop s hs L hL n (i + 1) p K (by omega) h5 h3 hK
    obtain ⟨k, rfl⟩ : ∃ m, k = (m + 1 + (i1 - a)) + 3 := ⟨k - 4 - (i1 - a), by omega⟩
    rw [show k + 1 + (i1 - a) + 3 = (k + 1 + (i1 - a) + 2) + 1 by omega, hallmarklaw04_TokenPlaces.l0, if_pos (by omega), if_pos (by omega), if_pos (by omega), hr, e1, show k + 1 + (i1 - a) + 2 = (k + 1 + (i1 - a) + 1) + 1 by omega, hallmarklaw04_TokenPlaces.j1, if_neg (by omega), decide_eq_false (by omega), hallmarklaw04_TokenPlaces.j2, if_neg (by decide),
      blanks_loop s L a i i1 (by omega) (by omega) (i1 - a) a (k + 1) (by omega) h4, hallmarklaw04_TokenPlaces.l1, if_neg (by omega), if_pos (by omega), if_pos (by omega), hr, e1, e2, if_neg (by omega), if_neg (by omega), hw]
    exact ih k (by omega)

theorem pure_TokenPlaces (a0 : ByteArray) (h : a0.size ≤ 1048576) : ∃ k, hallmarklaw04_TokenPlaces.f k a0 = some true := by
  refine ⟨8388608 + 30, ?_⟩
  unfold hallmarklaw04_TokenPlaces.f
  rw [tscan_f a0 (by omega), Option.bind_some, tknown_at _ (by omega), Option.bind_some, if_pos rfl]
  by_cases e : (tscanR a0).2.1 = 0
  · rw [if_pos e]
    obtain ⟨h1, h2⟩ := tscan_ok a0 e
    obtain ⟨new, n1, n2, n3⟩ := ahead_places a0 (a0.size + 1) 0 [] 0 (by omega) (by omega) h1 (Nat.le_refl _) (fun j h1 h2 => by omega)
    rw [h2, n1, List.nil_append]
    exact places_loop a0 h new (by omega) new.length 0 0 _ (by omega) n2 (by omega) (by omega)
  · rw [if_neg e, tscan_bad a0 e]
    rfl
end Go.Proofs.YtkfcoikfhpabmaaDoor.U
