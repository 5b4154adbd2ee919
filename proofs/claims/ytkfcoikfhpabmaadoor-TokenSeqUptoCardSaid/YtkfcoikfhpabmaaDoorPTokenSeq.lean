/- The law TokenSeq walked: the sequence to its end, twice, and left behind so many; the document's answer beside it. -/
import Derived.Test.YtkfcoikfhpabmaaDoorUL4x1
import Derived.Test.YtkfcoikfhpabmaaDoorVL0x6
import Derived.Test.YtkfcoikfhpabmaaDoorTokAll
import Derived.Test.YtkfcoikfhpabmaaDoorETokScan
import Derived.Test.YtkfcoikfhpabmaaDoorUL0x0
import Derived.Deep.LoopGhost
import Derived.Deep.RegionWith
import Derived.OwnWalk
import Derived.OwnWalkIn
import Derived.Sort.CutIn
import Derived.Stop.RegionWithIn
import Derived.Lib.Hide
import Derived.Outline
namespace Go.Proofs.YtkfcoikfhpabmaaDoor.U
open Go.RowKit Go.Proofs.YtkfcoikfhpabmaaDoorW.PrintWords
set_option linter.unusedSimpArgs false
set_option linter.unusedVariables false

theorem tknown_30 : hallmarklaw04_TokenKnown.f 30 = some true := by kernel_rfl
theorem tknown_ok : ∀ n, hallmarklaw04_TokenKnown.f (n + 30) = some true
  | 0 => tknown_30
  | n + 1 => hallmarklaw04_TokenKnown.mono (n + 30) true (tknown_ok n)
theorem tknown_at (k : Nat) (h : 30 ≤ k) : hallmarklaw04_TokenKnown.f k = some true := by
  obtain ⟨n, rfl⟩ : ∃ n, k = n + 30 := ⟨k - 30, by omega⟩
  exact tknown_ok n
theorem pure_TokenKnown : ∃ k, hallmarklaw04_TokenKnown.f k = some true := ⟨30, tknown_30⟩

theorem rd_tok (l : List Tok) (i : Nat) (h : i < l.length) : rd_T31 l (i : Int) = l[i] := by
  unfold rd_T31
  rw [Int.toNat_natCast, List.getD_eq_getElem?_getD, List.getElem?_eq_getElem h]
  rfl
theorem same_tok (t : Tok) : hallmarkkit_SameToken.f t.f0 t.f1 t.f2 t.f3 t.f0 t.f1 t.f2 t.f3 = some true := by
  unfold hallmarkkit_SameToken.f
  rw [if_pos rfl, if_pos rfl, if_pos rfl, if_pos rfl]
theorem same_loop (L : List Tok) (hL : L.length ≤ 1099511627776) : ∀ (n i k : Nat), i + n = L.length → n < k → hallmarkkit_SameTokens.l0 k L L (i : Int) = some true
  | 0, i, k, hi, hk => by
    obtain ⟨k, rfl⟩ : ∃ m, k = m + 1 := ⟨k - 1, by omega⟩
    rw [hallmarkkit_SameTokens.l0, if_neg (by omega)]
  | n + 1, i, k, hi, hk => by
    obtain ⟨k, rfl⟩ : ∃ m, k = m + 1 := ⟨k - 1, by omega⟩
    have hw : wrap64 ((i : Int) + 1) = ((i + 1 : Nat) : Int) := by unfold wrap64; omega
    rw [hallmarkkit_SameTokens.l0, if_pos (by omega), if_pos (by omega), if_pos (by omega), same_tok, Option.bind_some, if_pos rfl, hw]
    exact same_loop L hL n (i + 1) k (by omega) (by omega)
theorem same_tokens (L : List Tok) (hL : L.length ≤ 1099511627776) (k : Nat) (hk : L.length < k) : hallmarkkit_SameTokens.f k L L = some true := by
  unfold hallmarkkit_SameTokens.f
  rw [if_pos rfl]
  exact same_loop L hL L.length 0 k (by omega) hk
theorem tscan_f (s : ByteArray) (hs : s.size ≤ 1073741824) : token_Scan.f s = some (tscanR s) := by
  unfold token_Scan.f
  rw [if_pos hs]
theorem tscan_bad (s : ByteArray) (h : (tscanR s).2.1 ≠ 0) : (tscanR s).1 = [] := by
  unfold tscanR at h ⊢
  split
  · rename_i e
    rw [if_pos e] at h
    exact absurd rfl h
  · rfl
theorem tscan_ok (s : ByteArray) (h : (tscanR s).2.1 = 0) : (aheadZ s (s.size + 1) 0 []).2.1 = 0 ∧ (tscanR s).1 = (aheadZ s (s.size + 1) 0 []).1 := by
  unfold tscanR at h ⊢
  by_cases e : (aheadZ s (s.size + 1) 0 []).2.1 = 0
  · rw [if_pos e]
    exact ⟨e, rfl⟩
  · rw [if_neg e] at h
    exact absurd h e
def placesP (s : ByteArray) : List Tok → Nat → Prop
  | [], a => ∀ j : Nat, a ≤ j → j < s.size → blankT (bt s (j : Int)) = true
  | t :: l, a => ∃ i p : Nat, t.f1 = i ∧ t.f2 = p ∧ a ≤ i ∧ i < p ∧ p ≤ s.size ∧ (∀ j : Nat, a ≤ j → j < i → blankT (bt s (j : Int)) = true) ∧ placesP s l p
theorem ahead_places (s : ByteArray) : ∀ (f i : Nat) (toks : List Tok) (a : Nat), i ≤ s.size → s.size < i + f → (aheadZ s f i toks).2.1 = 0 → a ≤ i → (∀ j : Nat, a ≤ j → j < i → blankT (bt s (j : Int)) = true) →
    ∃ new, (aheadZ s f i toks).1 = toks ++ new ∧ placesP s new a ∧ new.length + i ≤ s.size
  | 0, i, toks, a, hi, hf, _, _, _ => by omega
  | f + 1, i, toks, a, hi, hf, he, ha, hb => by
    rw [aheadZ_step] at he ⊢
    by_cases hp : i < s.size
    · rw [if_pos hp] at he ⊢
      by_cases hbl : blankT (bt s (i : Int)) = true
      · rw [if_pos hbl] at he ⊢
        obtain ⟨new, h1, h2, h3⟩ := ahead_places s f (i + 1) toks a (by omega) (by omega) he (by omega) (fun j h1 h2 => by
          by_cases e : j = i
          · rw [e]; exact hbl
          · exact hb j h1 (by omega))
        exact ⟨new, h1, h2, by omega⟩
      · rw [if_neg hbl] at he ⊢
        by_cases h0 : (tokR s i).e = 0
        · rw [if_pos h0] at he ⊢
          have hrg := tokR_range s i hp h0
          obtain ⟨new, h1, h2, h3⟩ := ahead_places s f (tokR s i).pos _ (tokR s i).pos (by omega) (by omega) he (Nat.le_refl _) (fun j h1 h2 => by omega)
          exact ⟨⟨(tokR s i).kind, i, (tokR s i).pos, (tokR s i).text⟩ :: new, by rw [h1]; simp, ⟨i, (tokR s i).pos, rfl, rfl, ha, hrg.1, hrg.2, hb, h2⟩, by rw [List.length_cons]; omega⟩
        · rw [if_neg h0] at he
          exact absurd he h0
    · rw [if_neg hp] at he ⊢
      exact ⟨[], by simp, fun j h1 h2 => hb j h1 (by omega), by simp; omega⟩

end Go.Proofs.YtkfcoikfhpabmaaDoor.U

namespace Go.Proofs.YtkfcoikfhpabmaaDoor.R
open Go.RowKit Go.Proofs.YtkfcoikfhpabmaaDoorW.PrintWords Go.Proofs.YtkfcoikfhpabmaaDoor.V Go.Proofs.YtkfcoikfhpabmaaDoor.U
set_option linter.unusedSimpArgs false
set_option linter.unusedVariables false

def textZ (l : List Int) : ByteArray := ⟨(l.flatMap Lib.encodeRune).toArray⟩
theorem textZ_list (l : List Int) : (textZ l).data.toList = l.flatMap Lib.encodeRune := by simp [textZ]
theorem rd_nat (l : List Int) (i : Nat) (h : i < l.length) : rd l (i : Int) = l[i] := by
  unfold rd
  rw [Int.toNat_natCast, List.getD_eq_getElem?_getD, List.getElem?_eq_getElem h]
  rfl


/-- is a number a rune? -/
abbrev isRune (r : Int) : Prop := (0 ≤ r ∧ r < 55296) ∨ (57343 < r ∧ r ≤ 1114111)
theorem refIsRune_eq (r : Int) : hallmarkref02_IsRune.f r = some (decide (isRune r)) := by
  unfold hallmarkref02_IsRune.f
  by_cases a : r ≥ 0
  · rw [if_pos a]
    by_cases b : r ≤ 1114111
    · rw [if_pos b]
      by_cases c : r < 55296
      · rw [if_pos c]
        congr 1
        exact (decide_eq_true (Or.inl ⟨a, c⟩)).symm
      · rw [if_neg c]
        congr 1
        exact decide_eq_decide.2 ⟨fun g => Or.inr ⟨g, b⟩, fun g => by omega⟩
    · rw [if_neg b]
      congr 1
      exact (decide_eq_false (by omega)).symm
  · rw [if_neg a]
    congr 1
    exact (decide_eq_false (by omega)).symm

/-- how many bytes a rune's encoding has -/
def sizeZ (r : Int) : Int := if r < 128 then 1 else if r < 2048 then 2 else if r < 65536 then 3 else 4
theorem refSize_eq (r : Int) : hallmarkref02_Size.f r = some (sizeZ r) := by
  unfold hallmarkref02_Size.f sizeZ
  repeat' split
  all_goals rfl

theorem encZ_of (r : Int) (hr : isRune r) : Lib.encodeRuneZ r =
    if r < 128 then [r] else if r < 2048 then [192 + r / 64, 128 + r % 64] else if r < 65536 then [224 + r / 4096, 128 + r / 64 % 64, 128 + r % 64]
    else [240 + r / 262144, 128 + r / 4096 % 64, 128 + r / 64 % 64, 128 + r % 64] := by
  unfold isRune at hr
  by_cases a : r < 128
  · rw [if_pos a, Lib.encodeRuneZ_one (by omega) (by omega)]
  · rw [if_neg a]
    by_cases b : r < 2048
    · rw [if_pos b, Lib.encodeRuneZ_two (by omega) (by omega)]
    · rw [if_neg b]
      by_cases c : r < 65536
      · rw [if_pos c, Lib.encodeRuneZ_three (by omega)]
      · rw [if_neg c, Lib.encodeRuneZ_four (by omega) (by omega)]

theorem refEnc_j0 (r : Int) (hr : isRune r) (k : Nat) (hk : 8 ≤ k) : hallmarkref02_Encoding.j0 k r = some (Lib.encodeRuneZ r) := by
  obtain ⟨k, rfl⟩ : ∃ m, k = m + 1 := ⟨k - 1, by omega⟩
  obtain ⟨k, rfl⟩ : ∃ m, k = m + 1 := ⟨k - 1, by omega⟩
  obtain ⟨k, rfl⟩ : ∃ m, k = m + 1 := ⟨k - 1, by omega⟩
  obtain ⟨k, rfl⟩ : ∃ m, k = m + 1 := ⟨k - 1, by omega⟩
  obtain ⟨k, rfl⟩ : ∃ m, k = m + 1 := ⟨k - 1, by omega⟩
  rw [encZ_of r hr]
  have h0 : 0 ≤ r ∧ r ≤ 1114111 := by unfold isRune at hr; omega
  clear hr
  have t1 : Int.tdiv r 64 = r / 64 := Int.tdiv_eq_ediv_of_nonneg h0.1
  have t2 : Int.tdiv (r / 64) 64 = r / 4096 := by
    rw [Int.tdiv_eq_ediv_of_nonneg (by omega)]
    omega
  have t3 : Int.tdiv (r / 4096) 64 = r / 262144 := by
    rw [Int.tdiv_eq_ediv_of_nonneg (by omega)]
    omega
  have m1 : Int.tmod r 64 = r % 64 := Int.tmod_eq_emod_of_nonneg h0.1
  have m2 : Int.tmod (r / 64) 64 = r / 64 % 64 := Int.tmod_eq_emod_of_nonneg (by omega)
  have m3 : Int.tmod (r / 4096) 64 = r / 4096 % 64 := Int.tmod_eq_emod_of_nonneg (by omega)
  have w1 : wrap64 (r / 64) = r / 64 := by unfold wrap64; omega
  have w2 : wrap64 (r / 4096) = r / 4096 := by unfold wrap64; omega
  have w3 : wrap64 (r / 262144) = r / 262144 := by unfold wrap64; omega
  have c1 : wrap64 (128 + r % 64) % 256 = 128 + r % 64 := by unfold wrap64; omega
  have c2 : wrap64 (128 + r / 64 % 64) % 256 = 128 + r / 64 % 64 := by unfold wrap64; omega
  have c3 : wrap64 (128 + r / 4096 % 64) % 256 = 128 + r / 4096 % 64 := by unfold wrap64; omega
  have s0 : wrap64 (1 - 1) = 0 := by first | decide | (unfold wrap64; decide)
  have s1 : wrap64 (2 - 1) = 1 := by first | decide | (unfold wrap64; decide)
  have s2 : wrap64 (3 - 1) = 2 := by first | decide | (unfold wrap64; decide)
  have s3 : wrap64 (4 - 1) = 3 := by first | decide | (unfold wrap64; decide)
  simp only [hallmarkref02_Encoding.j0, refSize_eq, Option.bind_some]
  unfold sizeZ
  by_cases a : r < 128
  · simp only [if_pos a, if_true]
    congr 2
    omega
  · by_cases b : r < 2048
    · have cc : wrap64 (192 + r / 64) % 256 = 192 + r / 64 := by unfold wrap64; omega
      simp only [if_neg a, if_pos b, s1, s0, show ((2 : Int) = 1) = False by decide, show ((0 : Int) ≤ 2) = True by decide, if_true, if_false, show ((2 : Int).toNat ≤ 281474976710656) = True by decide]
      simp only [hallmarkref02_Encoding.l0, t1, m1, c1, w1, cc, s0, show List.replicate (2 : Int).toNat (0 : Int) = [0, 0] from rfl, List.length_cons, List.length_nil, List.length_set]
      rfl
    · by_cases c : r < 65536
      · have cc : wrap64 (224 + r / 4096) % 256 = 224 + r / 4096 := by unfold wrap64; omega
        simp only [if_neg a, if_neg b, if_pos c, s2, s1, s0, show ((3 : Int) = 1) = False by decide, show ((0 : Int) ≤ 3) = True by decide, if_true, if_false, show ((3 : Int).toNat ≤ 281474976710656) = True by decide]
        simp only [hallmarkref02_Encoding.l0, t1, t2, m1, m2, c1, c2, w1, w2, cc, s1, s0, show List.replicate (3 : Int).toNat (0 : Int) = [0, 0, 0] from rfl, List.length_cons, List.length_nil, List.length_set]
        rfl
      · have cc : wrap64 (240 + r / 262144) % 256 = 240 + r / 262144 := by unfold wrap64; omega
        simp only [if_neg a, if_neg b, if_neg c, s3, s2, s1, s0, show ((4 : Int) = 1) = False by decide, show ((0 : Int) ≤ 4) = True by decide, if_true, if_false, show ((4 : Int).toNat ≤ 281474976710656) = True by decide]
        simp only [hallmarkref02_Encoding.l0, t1, t2, t3, m1, m2, m3, c1, c2, c3, w1, w2, w3, cc, s2, s1, s0, show List.replicate (4 : Int).toNat (0 : Int) = [0, 0, 0, 0] from rfl, List.length_cons, List.length_nil, List.length_set]
        rfl

theorem refEnc_eq (r : Int) (hr : isRune r) (k : Nat) (hk : 8 ≤ k) : hallmarkref02_Encoding.f k r = some (Lib.encodeRuneZ r) := by
  unfold hallmarkref02_Encoding.f
  rw [refIsRune_eq, decide_eq_true hr]
  simp only [Option.bind_some, if_true]
  exact refEnc_j0 r hr k hk

/-- do these numbers stand as bytes at the head of a text? -/
def stands : List Int → List UInt8 → Bool
  | [], _ => true
  | _ :: _, [] => false
  | x :: xs, b :: bs => decide ((b.toNat : Int) = x) && stands xs bs

theorem drop_bt (s : ByteArray) (q : Nat) (h : q < s.size) : ∃ b rest, s.data.toList.drop q = b :: rest ∧ (b.toNat : Int) = bt s q ∧ s.data.toList.drop (q + 1) = rest := by
  have hl : q < s.data.toList.length := by rw [← Lib.size_eq]; exact h
  refine ⟨s.data.toList[q], s.data.toList.drop (q + 1), List.drop_eq_getElem_cons hl, ?_, rfl⟩
  have := getD_bt s q h
  rw [List.getD_eq_getElem?_getD, List.getElem?_eq_getElem hl] at this
  exact this

theorem stands_cons (x : Int) (xs : List Int) (b : UInt8) (bs : List UInt8) : stands (x :: xs) (b :: bs) = (decide ((b.toNat : Int) = x) && stands xs bs) := rfl
theorem same_loop (s : ByteArray) (hs : s.size ≤ 140737488351232) (p : Nat) (l : List Int) (hl : p + l.length ≤ s.size) : ∀ (n i k : Nat), i + n = l.length → n < k →
    hallmarkref02_same.l0 k s p l i = some (stands (l.drop i) (s.data.toList.drop (p + i)))
  | 0, i, k, hi, hk => by
    obtain ⟨k, rfl⟩ : ∃ m, k = m + 1 := ⟨k - 1, by omega⟩
    unfold hallmarkref02_same.l0
    rw [if_neg (by omega), List.drop_eq_nil_of_le (by omega)]
    rfl
  | n + 1, i, k, hi, hk => by
    obtain ⟨k, rfl⟩ : ∃ m, k = m + 1 := ⟨k - 1, by omega⟩
    have hlt : i < l.length := by omega
    have ih := same_loop s hs p l hl n (i + 1) k (by omega) (by omega)
    have hw : wrap64 ((i : Int) + 1) = ((i + 1 : Nat) : Int) := by unfold wrap64; omega
    have hq : wrap64 ((p : Int) + (i : Int)) = ((p + i : Nat) : Int) := by unfold wrap64; omega
    obtain ⟨b, rest, e1, e2, e3⟩ := drop_bt s (p + i) (by omega)
    unfold hallmarkref02_same.l0
    rw [hw, hq, ih, rd_nat l i hlt, if_pos (by omega), if_pos (by omega), if_pos (by omega), if_pos (by omega), List.drop_eq_getElem_cons hlt, e1, ← e2]
    rw [show p + (i + 1) = p + i + 1 by omega, e3, stands_cons]
    by_cases c : (b.toNat : Int) = l[i]
    · rw [if_pos c, decide_eq_true c, Bool.true_and]
    · rw [if_neg c, decide_eq_false c, Bool.false_and]
theorem same_eq (s : ByteArray) (hs : s.size ≤ 140737488351232) (p : Nat) (l : List Int) (hl : p + l.length ≤ s.size) (k : Nat) (hk : l.length < k) :
    hallmarkref02_same.f k s p l = some (stands l (s.data.toList.drop p)) := by
  unfold hallmarkref02_same.f
  rw [if_neg (by unfold wrap64; omega)]
  exact same_loop s hs p l hl l.length 0 k (by omega) hk

theorem stands_iff : ∀ (l : List Int) (L : List UInt8), (∀ x ∈ l, 0 ≤ x ∧ x < 256) → (stands l L = true ↔ ∃ rest, L = l.map (fun x => x.toNat.toUInt8) ++ rest)
  | [], L, _ => ⟨fun _ => ⟨L, rfl⟩, fun _ => rfl⟩
  | x :: xs, [], _ => ⟨fun h => by simp [stands] at h, fun ⟨r, h⟩ => by simp at h⟩
  | x :: xs, b :: bs, h => by
    have ih := stands_iff xs bs (fun y hy => h y (by simp [hy]))
    have hx := h x (by simp)
    unfold stands
    rw [Bool.and_eq_true, decide_eq_true_eq, ih]
    constructor
    · rintro ⟨hb, rest, rfl⟩
      refine ⟨rest, ?_⟩
      rw [List.map_cons, List.cons_append]
      congr 1
      rw [← hb]
      simp
    · rintro ⟨rest, hr⟩
      rw [List.map_cons, List.cons_append] at hr
      injection hr with h1 h2
      refine ⟨?_, rest, h2⟩
      rw [h1]
      exact Utf.byte_back x hx.1 hx.2
theorem stands_enc (r : Int) (L : List UInt8) : stands (Lib.encodeRuneZ r) L = true ↔ ∃ rest, L = Lib.encodeRune r ++ rest :=
  stands_iff _ L (Lib.encodeRuneZ_byte r)

/-- a number, if it is a rune of so many bytes; else -1 -/
def fin (n size : Int) : Int := if isRune n ∧ sizeZ n = size then n else -1
def spellGo (size : Int) : List Int → Int → Int
  | [], n => fin n size
  | b :: l, n => if b < 128 then -1 else if b > 191 then -1 else spellGo size l (64 * n + b - 128)
/-- so many bytes of a text from a place on -/
def bts (s : ByteArray) : Nat → Nat → List Int
  | 0, _ => []
  | m + 1, q => bt s (q : Int) :: bts s m (q + 1)

def bnd : Nat → Int
  | 0 => 200000000
  | 1 => 2000000
  | 2 => 20000
  | _ => 255
theorem bnd_le (m : Nat) : bnd m ≤ 200000000 := by
  unfold bnd
  split <;> omega
theorem bnd_step (m : Nat) (hm : m + 1 ≤ 3) (n : Int) (h : n ≤ bnd (m + 1)) : 64 * n + 63 ≤ bnd m := by
  rcases (show m = 0 ∨ m = 1 ∨ m = 2 by omega) with rfl | rfl | rfl
  · have : n ≤ 2000000 := h
    show 64 * n + 63 ≤ 200000000
    omega
  · have : n ≤ 20000 := h
    show 64 * n + 63 ≤ 2000000
    omega
  · have : n ≤ 255 := h
    show 64 * n + 63 ≤ 20000
    omega

theorem spell_loop (s : ByteArray) (hs : s.size ≤ 140737488351232) (p z : Nat) (hz : p + z ≤ s.size) : ∀ (m i k : Nat) (n : Int), i + m = z → m < k → 0 ≤ n → m ≤ 3 → n ≤ bnd m →
    hallmarkref02_spelled.l0 k s p z n i = some (spellGo z (bts s m (p + i)) n) := by
  intro m
  induction m with
  | zero =>
    intro i k n hi hk hn _ _
    obtain ⟨k, rfl⟩ : ∃ m, k = m + 1 := ⟨k - 1, by omega⟩
    unfold hallmarkref02_spelled.l0
    rw [if_neg (by omega), refIsRune_eq, refSize_eq]
    unfold bts spellGo fin
    by_cases a : isRune n
    · by_cases b : sizeZ n = (z : Int)
      · simp only [Option.bind_some, decide_eq_true a, if_true, if_pos b, if_pos (And.intro a b)]
      · simp only [Option.bind_some, decide_eq_true a, if_true, if_neg b, if_neg (fun g : isRune n ∧ sizeZ n = (z : Int) => b g.2)]
    · simp only [Option.bind_some, decide_eq_false a, Bool.false_eq_true, if_false, if_neg (fun g : isRune n ∧ sizeZ n = (z : Int) => a g.1)]
  | succ m ih =>
    intro i k n hi hk hn hm hb
    obtain ⟨k, rfl⟩ : ∃ m, k = m + 1 := ⟨k - 1, by omega⟩
    have hr := Go.Proofs.YtkfcoikfhpabmaaDoorW.PrintWords.bt_range s ((p + i : Nat) : Int)
    have hn2 : n ≤ 200000000 := Int.le_trans hb (bnd_le (m + 1))
    have HST : Hid (64 * n + 63 ≤ bnd m) := bnd_step m hm n hb
    clear hb
    obtain ⟨c, hc⟩ : ∃ c, bt s ((p + i : Nat) : Int) = c := ⟨_, rfl⟩
    rw [hc] at hr
    have HC : Hid (bt s ((p + i : Nat) : Int) = c) := hc
    clear hc
    have ih : Hid (∀ (i k : Nat) (n : Int), i + m = z → m < k → 0 ≤ n → m ≤ 3 → n ≤ bnd m → hallmarkref02_spelled.l0 k s p z n i = some (spellGo z (bts s m (p + i)) n)) := ih
    have hw : wrap64 ((i : Int) + 1) = ((i + 1 : Nat) : Int) := by unfold wrap64; omega
    have hq : wrap64 ((p : Int) + (i : Int)) = ((p + i : Nat) : Int) := by unfold wrap64; omega
    have hwb : wrap64 c = c := by unfold wrap64; omega
    have e1 : wrap64 (64 * n) = 64 * n := by unfold wrap64; omega
    have e2 : wrap64 (64 * n + c) = 64 * n + c := by unfold wrap64; omega
    have e3 : wrap64 (64 * n + c - 128) = 64 * n + c - 128 := by unfold wrap64; omega
    have i1 : (i : Int) < (z : Int) := by omega
    have i2 : (0 : Int) ≤ ((p + i : Nat) : Int) := by omega
    have i3 : ((p + i : Nat) : Int) < (s.size : Int) := by omega
    unfold hallmarkref02_spelled.l0 bts spellGo
    rw [hw, hq, HC.out, hwb, e1, e2, e3, if_pos i1, if_pos i2, if_pos i3]
    by_cases a : c < 128
    · rw [if_pos a, if_pos a]
    · rw [if_neg a, if_neg a]
      by_cases b : c > 191
      · rw [if_pos b, if_pos b]
      · rw [if_neg b, if_neg b]
        have hg := ih.out (i + 1) k (64 * n + c - 128) (by omega) (by omega) (by omega) (by omega) (Int.le_trans (show 64 * n + c - 128 ≤ 64 * n + 63 by omega) HST.out)
        rw [show p + (i + 1) = p + i + 1 by omega] at hg
        exact hg

/-- what the first byte gives, by the encoding's size -/
def lead (z : Nat) (b : Int) : Int := if z = 2 then b - 192 else if z = 3 then b - 224 else if z = 4 then b - 240 else b
def spellZ (s : ByteArray) (p z : Nat) : Int := if lead z (bt s p) < 0 then -1 else spellGo z (bts s (z - 1) (p + 1)) (lead z (bt s p))

theorem spelled_eq (s : ByteArray) (hs : s.size ≤ 140737488351232) (p z : Nat) (h1 : 1 ≤ z) (h4 : z ≤ 4) (hz : p + z ≤ s.size) (k : Nat) (hk : 10 ≤ k) : hallmarkref02_spelled.f k s p z = some (spellZ s p z) := by
  obtain ⟨k, rfl⟩ : ∃ m, k = m + 1 := ⟨k - 1, by omega⟩
  obtain ⟨k, rfl⟩ : ∃ m, k = m + 1 := ⟨k - 1, by omega⟩
  obtain ⟨k, rfl⟩ : ∃ m, k = m + 1 := ⟨k - 1, by omega⟩
  have hr := Go.Proofs.YtkfcoikfhpabmaaDoorW.PrintWords.bt_range s (p : Int)
  have i0 : (0 : Int) ≤ (p : Int) := by omega
  have i1 : (p : Int) < (s.size : Int) := by omega
  obtain ⟨b, hb⟩ : ∃ b, bt s (p : Int) = b := ⟨_, rfl⟩
  rw [hb] at hr
  have HB : Hid (bt s (p : Int) = b) := hb
  clear hb
  have w0 : wrap64 b = b := by unfold wrap64; omega
  have w2 : wrap64 (b - 192) = b - 192 := by unfold wrap64; omega
  have w3 : wrap64 (b - 224) = b - 224 := by unfold wrap64; omega
  have w4 : wrap64 (b - 240) = b - 240 := by unfold wrap64; omega
  have hl : lead z b ≤ 255 := by
    unfold lead
    repeat' split
    all_goals omega
  have hgo : ¬ lead z b < 0 → hallmarkref02_spelled.l0 k s p z (lead z b) ((1 : Nat) : Int) = some (spellGo z (bts s (z - 1) (p + 1)) (lead z b)) := by
    intro hn
    refine spell_loop s hs p z hz (z - 1) 1 k (lead z b) (by omega) (by omega) (by omega) (by omega) ?_
    rcases (show z = 1 ∨ z = 2 ∨ z = 3 ∨ z = 4 by omega) with rfl | rfl | rfl | rfl
    · show lead 1 b ≤ 200000000
      omega
    · show lead 2 b ≤ 2000000
      omega
    · show lead 3 b ≤ 20000
      omega
    · exact hl
  unfold hallmarkref02_spelled.f spellZ
  rw [HB.out, w0, w2, if_pos i0, if_pos i1]
  have key : ∀ x : Int, x = lead z b → hallmarkref02_spelled.j2 (k + 1) s p z x = some (if lead z b < 0 then -1 else spellGo z (bts s (z - 1) (p + 1)) (lead z b)) := by
    intro x hx
    subst hx
    by_cases n : lead z b < 0
    · simp only [hallmarkref02_spelled.j2, if_pos n]
    · simp only [hallmarkref02_spelled.j2, if_neg n]
      exact hgo n
  rcases (show z = 1 ∨ z = 2 ∨ z = 3 ∨ z = 4 by omega) with rfl | rfl | rfl | rfl
  · simp only [hallmarkref02_spelled.j0, hallmarkref02_spelled.j1, show (((1 : Nat) : Int) = 2) = False by decide, show (((1 : Nat) : Int) = 3) = False by decide, show (((1 : Nat) : Int) = 4) = False by decide, if_false]
    exact key b rfl
  · simp only [hallmarkref02_spelled.j0, hallmarkref02_spelled.j1, show (((2 : Nat) : Int) = 2) = True by decide, show (((2 : Nat) : Int) = 3) = False by decide, show (((2 : Nat) : Int) = 4) = False by decide, if_false, if_true]
    exact key (b - 192) rfl
  · simp only [hallmarkref02_spelled.j0, hallmarkref02_spelled.j1, show (((3 : Nat) : Int) = 2) = False by decide, show (((3 : Nat) : Int) = 3) = True by decide, show (((3 : Nat) : Int) = 4) = False by decide, if_false, if_true, w3]
    exact key (b - 224) rfl
  · simp only [hallmarkref02_spelled.j0, hallmarkref02_spelled.j1, show (((4 : Nat) : Int) = 2) = False by decide, show (((4 : Nat) : Int) = 3) = False by decide, show (((4 : Nat) : Int) = 4) = True by decide, if_false, if_true, w4]
    exact key (b - 240) rfl

theorem spellGo_told (z : Int) : ∀ (l : List Int) (n : Int), 0 ≤ spellGo z l n → isRune (spellGo z l n) ∧ sizeZ (spellGo z l n) = z
  | [], n, h => by
    unfold spellGo fin at h ⊢
    by_cases c : isRune n ∧ sizeZ n = z
    · rw [if_pos c]
      exact c
    · rw [if_neg c] at h
      omega
  | b :: l, n, h => by
    unfold spellGo at h ⊢
    by_cases c : b < 128
    · rw [if_pos c] at h
      omega
    · rw [if_neg c] at h ⊢
      by_cases d : b > 191
      · rw [if_pos d] at h
        omega
      · rw [if_neg d] at h ⊢
        exact spellGo_told z l _ h
theorem spellZ_told (s : ByteArray) (p z : Nat) (h : 0 ≤ spellZ s p z) : isRune (spellZ s p z) ∧ sizeZ (spellZ s p z) = z := by
  unfold spellZ at h ⊢
  by_cases c : lead z (bt s p) < 0
  · rw [if_pos c] at h
    omega
  · rw [if_neg c] at h ⊢
    exact spellGo_told z _ _ h

theorem encZ_size (r : Int) (hr : isRune r) : ((Lib.encodeRuneZ r).length : Int) = sizeZ r := by
  rw [encZ_of r hr]
  unfold sizeZ
  repeat' split
  all_goals rfl

theorem stands_bts (s : ByteArray) : ∀ (l : List Int) (p : Nat), stands l (s.data.toList.drop p) = true → bts s l.length p = l
  | [], p, _ => rfl
  | x :: xs, p, h => by
    by_cases hp : p < s.size
    · obtain ⟨b, rest, e1, e2, e3⟩ := drop_bt s p hp
      rw [e1, stands_cons, Bool.and_eq_true, decide_eq_true_eq, ← e3] at h
      have ih := stands_bts s xs (p + 1) h.2
      show bt s (p : Int) :: bts s xs.length (p + 1) = x :: xs
      rw [ih, ← e2, h.1]
    · rw [List.drop_eq_nil_of_le (by rw [← Lib.size_eq]; omega)] at h
      simp [stands] at h

theorem spellZ_enc (s : ByteArray) (p : Nat) (r : Int) (hr : isRune r) (h : bts s (Lib.encodeRuneZ r).length p = Lib.encodeRuneZ r) : spellZ s p (Lib.encodeRuneZ r).length = r := by
  have hz := encZ_size r hr
  have he := encZ_of r hr
  have h0 : 0 ≤ r ∧ r ≤ 1114111 := by unfold isRune at hr; omega
  by_cases a : r < 128
  · rw [if_pos a] at he
    have hs : sizeZ r = 1 := if_pos a
    rw [he] at h ⊢
    injection h with h1 _
    unfold spellZ
    rw [h1]
    show (if r < 0 then -1 else fin r 1) = r
    rw [if_neg (by omega)]
    exact if_pos ⟨hr, hs⟩
  · rw [if_neg a] at he
    by_cases b : r < 2048
    · rw [if_pos b] at he
      have hs : sizeZ r = 2 := by unfold sizeZ; rw [if_neg a, if_pos b]
      rw [he] at h ⊢
      injection h with h1 h2
      unfold spellZ
      rw [h1]
      show (if 192 + r / 64 - 192 < 0 then -1 else spellGo 2 (bts s 1 (p + 1)) (192 + r / 64 - 192)) = r
      rw [if_neg (by omega), show bts s 1 (p + 1) = [128 + r % 64] from h2]
      unfold spellGo
      rw [if_neg (by omega), if_neg (by omega)]
      unfold spellGo
      rw [show 64 * (192 + r / 64 - 192) + (128 + r % 64) - 128 = r by omega]
      exact if_pos ⟨hr, hs⟩
    · rw [if_neg b] at he
      by_cases c : r < 65536
      · rw [if_pos c] at he
        have hs : sizeZ r = 3 := by unfold sizeZ; rw [if_neg a, if_neg b, if_pos c]
        rw [he] at h ⊢
        injection h with h1 h2
        unfold spellZ
        rw [h1]
        show (if 224 + r / 4096 - 224 < 0 then -1 else spellGo 3 (bts s 2 (p + 1)) (224 + r / 4096 - 224)) = r
        rw [if_neg (by omega), show bts s 2 (p + 1) = [128 + r / 64 % 64, 128 + r % 64] from h2]
        unfold spellGo
        rw [if_neg (by omega), if_neg (by omega)]
        unfold spellGo
        rw [if_neg (by omega), if_neg (by omega)]
        unfold spellGo
        rw [show 64 * (64 * (224 + r / 4096 - 224) + (128 + r / 64 % 64) - 128) + (128 + r % 64) - 128 = r by omega]
        exact if_pos ⟨hr, hs⟩
      · rw [if_neg c] at he
        have hs : sizeZ r = 4 := by unfold sizeZ; rw [if_neg a, if_neg b, if_neg c]
        rw [he] at h ⊢
        injection h with h1 h2
        unfold spellZ
        rw [h1]
        show (if 240 + r / 262144 - 240 < 0 then -1 else spellGo 4 (bts s 3 (p + 1)) (240 + r / 262144 - 240)) = r
        rw [if_neg (by omega), show bts s 3 (p + 1) = [128 + r / 4096 % 64, 128 + r / 64 % 64, 128 + r % 64] from h2]
        unfold spellGo
        rw [if_neg (by omega), if_neg (by omega)]
        unfold spellGo
        rw [if_neg (by omega), if_neg (by omega)]
        unfold spellGo
        rw [if_neg (by omega), if_neg (by omega)]
        unfold spellGo
        rw [show 64 * (64 * (64 * (240 + r / 262144 - 240) + (128 + r / 4096 % 64) - 128) + (128 + r / 64 % 64) - 128) + (128 + r % 64) - 128 = r by omega]
        exact if_pos ⟨hr, hs⟩

/-- is the piece at a place a stray byte? -/
abbrev strayAt (s : ByteArray) (p : Nat) : Prop := (Utf8.decode s p).1 = 65533 ∧ (Utf8.decode s p).2 = 1

/-- the encoding of a piece that is not stray stands in the text -/
theorem piece_stands (s : ByteArray) (p : Nat) (hp : p < s.size) (hn : ¬ strayAt s p) :
    stands (Lib.encodeRuneZ ((Utf8.decode s p).1 : Int)) (s.data.toList.drop p) = true ∧ (Lib.encodeRuneZ ((Utf8.decode s p).1 : Int)).length = (Utf8.decode s p).2 := by
  have hne := Utf.drop_ne s p hp
  have hd := Lib.decodeL_drop s p
  have he := Lib.encode_decode (s.data.toList.drop p) hne (by rw [hd]; exact hn)
  rw [hd] at he
  refine ⟨(stands_enc _ _).2 ⟨(s.data.toList.drop p).drop (Utf8.decode s p).2, ?_⟩, ?_⟩
  · rw [he, List.take_append_drop]
  · have h1 := congrArg List.length he
    have hw := (Utf.at_width s p hp).2
    rw [List.length_take, List.length_drop, ← Lib.size_eq] at h1
    unfold Lib.encodeRune at h1
    rw [List.length_map] at h1
    omega
theorem piece_rune (s : ByteArray) (p : Nat) : isRune ((Utf8.decode s p).1 : Int) := by
  have := Utf.decode_proper (s.data.toList.drop p)
  rw [Lib.decodeL_drop] at this
  exact this

/-- what stands in the text is the piece -/
theorem stands_piece (s : ByteArray) (p : Nat) (v : Int) (hv : isRune v) (h : stands (Lib.encodeRuneZ v) (s.data.toList.drop p) = true) :
    Utf8.decode s p = (v.toNat, (Lib.encodeRuneZ v).length) := by
  obtain ⟨rest, hr⟩ := (stands_enc _ _).1 h
  rw [← Lib.decodeL_drop, hr, Utf.decode_encode v hv]
  unfold Lib.encodeRune
  rw [List.length_map]

/-- the reference's piece at a place -/
def atZ (s : ByteArray) (p : Nat) : Int × Int × Int × Bool := ((p : Int), ((p + (Utf8.decode s p).2 : Nat) : Int), ((Utf8.decode s p).1 : Int), decide (strayAt s p))

theorem at_end (s : ByteArray) (hs : s.size ≤ 140737488351232) (p z k : Nat) (hp : p < s.size) (hst : strayAt s p) : hallmarkref02_at.j1 (k + 1) s p z false = some (atZ s p) := by
  have hw : wrap64 ((p : Int) + 1) = ((p + 1 : Nat) : Int) := by unfold wrap64; omega
  simp only [hallmarkref02_at.j1, Bool.false_eq_true, if_false, hw]
  unfold atZ
  rw [decide_eq_true hst, hst.1, hst.2]
  rfl

set_option linter.unusedSimpArgs false

theorem not_stray (v : Int) (z : Nat) (h0 : v ≥ 0) (hsz : sizeZ v = (z : Int)) : ¬ (v.toNat = 65533 ∧ z = 1) := by
  intro g
  have h1 : v = 65533 := by omega
  have h2 : sizeZ v = 3 := by
    unfold sizeZ
    rw [if_neg (by omega), if_neg (by omega), if_pos (by omega)]
  omega
theorem at_l0_pos (k : Nat) (s : ByteArray) (x y : Int) (h : y ≤ 4) : hallmarkref02_at.l0 (k + 1) s x y = hallmarkref02_at.j1 k s x y (decide (wrap64 (x + y) ≤ (s.size : Int))) := by
  rw [hallmarkref02_at.l0, if_pos h]
theorem at_j1_true (k : Nat) (s : ByteArray) (x y : Int) : hallmarkref02_at.j1 (k + 1) s x y true = (hallmarkref02_spelled.f k s x y).bind fun t155 => (if t155 ≥ 0 then ((hallmarkref02_Encoding.f k t155).bind fun t156 => ((hallmarkref02_same.f k s x t156).bind fun t159 => (if t159 = true then (some (x, wrap64 (x + y), t155, false)) else (hallmarkref02_at.l0 k s x (wrap64 (y + 1)))))) else (hallmarkref02_at.l0 k s x (wrap64 (y + 1)))) := by
  rw [hallmarkref02_at.j1, if_pos rfl]
/-- a size is tried: it is the piece's, or the next one is tried -/
theorem at_round (s : ByteArray) (hs : s.size ≤ 140737488351232) (p z k : Nat) (hp : p < s.size) (h1 : 1 ≤ z) (i4 : z ≤ 4) (hpz : p + z ≤ s.size) (i10 : 10 ≤ k) (hz5 : (z : Int) ≤ 4)
    (hw : wrap64 ((p : Int) + (z : Int)) = ((p + z : Nat) : Int)) (hw1 : wrap64 ((z : Int) + 1) = ((z + 1 : Nat) : Int)) (hle : ((p + z : Nat) : Int) ≤ (s.size : Int))
    (R : Option (Int × Int × Int × Bool)) (hR : hallmarkref02_at.l0 k s p ((z + 1 : Nat) : Int) = R) :
    hallmarkref02_at.l0 (k + 2) s p z = some (atZ s p) ∨ ((¬ strayAt s p → (Utf8.decode s p).2 ≠ z) ∧ hallmarkref02_at.l0 (k + 2) s p z = R) := by
  -- if the size is the piece's, the rune is spelled
  have own : ¬ strayAt s p → (Utf8.decode s p).2 = z → spellZ s p z = ((Utf8.decode s p).1 : Int) ∧ stands (Lib.encodeRuneZ ((Utf8.decode s p).1 : Int)) (s.data.toList.drop p) = true := by
    intro hn hz2
    obtain ⟨g1, g2⟩ := piece_stands s p hp hn
    have := spellZ_enc s p _ (piece_rune s p) (stands_bts s _ p g1)
    rw [g2, hz2] at this
    exact ⟨this, g1⟩
  have e0 : hallmarkref02_at.l0 (k + 2) s p z = hallmarkref02_at.j1 (k + 1) s p z true := by
    rw [at_l0_pos (k + 1) s p z hz5, hw, decide_eq_true hle]
  rw [e0, at_j1_true, hw, hw1, hR, spelled_eq s hs p z h1 i4 hpz k i10]
  rw [Option.bind_some]
  by_cases hv : spellZ s p z ≥ 0
  · rw [if_pos hv]
    obtain ⟨hr, hsz⟩ := spellZ_told s p z hv
    have hL : (Lib.encodeRuneZ (spellZ s p z)).length = z := Int.ofNat.inj ((encZ_size _ hr).trans hsz)
    have i8 : 8 ≤ k := Nat.le_trans (by decide) i10
    have i5 : z < k := Nat.lt_of_le_of_lt i4 (Nat.lt_of_lt_of_le (by decide) i10)
    rw [refEnc_eq _ hr k i8, Option.bind_some, same_eq s hs p _ (by rw [hL]; exact hpz) k (by rw [hL]; exact i5), Option.bind_some]
    by_cases hst : stands (Lib.encodeRuneZ (spellZ s p z)) (s.data.toList.drop p) = true
    · left
      rw [if_pos hst]
      have hd := stands_piece s p _ hr hst
      rw [hL] at hd
      have hT : ((spellZ s p z).toNat : Int) = spellZ s p z := Int.toNat_of_nonneg hv
      unfold atZ strayAt
      rw [hd]
      have hns := not_stray (spellZ s p z) z hv hsz
      rw [decide_eq_false hns]
      congr 1
      refine Prod.ext rfl (Prod.ext rfl (Prod.ext ?_ rfl))
      exact hT.symm
    · right
      rw [if_neg hst]
      refine ⟨?_, rfl⟩
      intro hn hz2
      obtain ⟨o1, o2⟩ := own hn hz2
      rw [o1] at hst
      exact hst o2
  · right
    rw [if_neg hv]
    refine ⟨?_, rfl⟩
    intro hn hz2
    obtain ⟨o1, _⟩ := own hn hz2
    rw [o1] at hv
    exact hv (Int.natCast_nonneg _)

theorem at_last (s : ByteArray) (hs : s.size ≤ 140737488351232) (p z k : Nat) (hp : p < s.size) (hst : strayAt s p) (h : ¬ ((z : Int) ≤ 4) ∨ (wrap64 ((p : Int) + (z : Int)) = ((p + z : Nat) : Int) ∧ ¬ ((p + z : Nat) : Int) ≤ (s.size : Int))) :
    hallmarkref02_at.l0 (k + 2) s p z = some (atZ s p) := by
  unfold hallmarkref02_at.l0
  by_cases c : (z : Int) ≤ 4
  · rw [if_pos c]
    rcases h with h | ⟨hw, h⟩
    · exact absurd c h
    · rw [hw, decide_eq_false h]
      exact at_end s hs p z k hp hst
  · rw [if_neg c]
    exact at_end s hs p z k hp hst

theorem at_width4 (s : ByteArray) (p : Nat) (hp : p < s.size) (hn : ¬ strayAt s p) : (Utf8.decode s p).2 ≤ 4 := by
  rw [← (piece_stands s p hp hn).2]
  exact (Lib.encodeRuneZ_length ((Utf8.decode s p).1 : Int)).2

theorem at_loop (s : ByteArray) (hs : s.size ≤ 140737488351232) (p : Nat) (hp : p < s.size) : ∀ (m z k : Nat), z + m = 5 → 1 ≤ z → 2 * m + 14 ≤ k → (strayAt s p ∨ z ≤ (Utf8.decode s p).2) → hallmarkref02_at.l0 k s p z = some (atZ s p) := by
  have hwd := (Utf.at_width s p hp).2
  intro m
  induction m with
  | zero =>
    intro z k hz h1 hk hi
    obtain ⟨k, rfl⟩ : ∃ m, k = m + 2 := ⟨k - 2, (Nat.sub_add_cancel (Nat.le_trans (by decide) hk)).symm⟩
    have hz5 : z = 5 := hz
    subst hz5
    refine at_last s hs p 5 k hp ?_ (Or.inl (by decide))
    rcases hi with h | h
    · exact h
    · by_cases c : strayAt s p
      · exact c
      · exact absurd (Nat.le_trans h (at_width4 s p hp c)) (by decide)
  | succ m ih =>
    intro z k hz h1 hk hi
    obtain ⟨k, rfl⟩ : ∃ m, k = m + 2 := ⟨k - 2, (Nat.sub_add_cancel (Nat.le_trans (by omega) hk)).symm⟩
    have i4 : z ≤ 4 := by clear hi hwd ih; omega
    have hk2 : 2 * m + 14 ≤ k := by clear hi hwd ih; omega
    have hz2 : z + 1 + m = 5 := by clear hi hwd ih; omega
    have hw : wrap64 ((p : Int) + (z : Int)) = ((p + z : Nat) : Int) := by clear hi hwd ih; unfold wrap64; omega
    have hw1 : wrap64 ((z : Int) + 1) = ((z + 1 : Nat) : Int) := by clear hi hwd ih; unfold wrap64; omega
    by_cases hpz : p + z ≤ s.size
    · rcases at_round s hs p z k hp h1 i4 hpz (Nat.le_trans (Nat.le_trans (by decide) (Nat.le_add_left 14 (2 * m))) hk2) (Int.ofNat_le.2 i4) hw hw1 (Int.ofNat_le.2 hpz) _ rfl with h | ⟨hne, h⟩
      · exact h
      · rw [h]
        refine ih (z + 1) k hz2 (Nat.le_add_left 1 z) hk2 ?_
        by_cases c : strayAt s p
        · exact Or.inl c
        · rcases hi with g | g
          · exact Or.inl g
          · exact Or.inr (Nat.lt_of_le_of_ne g (Ne.symm (hne c)))
    · refine at_last s hs p z k hp ?_ (Or.inr ⟨hw, fun g => hpz (Int.ofNat_le.1 g)⟩)
      rcases hi with h | h
      · exact h
      · exact absurd (Nat.le_trans (Nat.add_le_add_left h p) hwd) hpz

theorem refAt_eq (s : ByteArray) (hs : s.size ≤ 140737488351232) (p : Nat) (hp : p < s.size) (k : Nat) (hk : 24 ≤ k) : hallmarkref02_at.f k s p = some (atZ s p) :=
  at_loop s hs p hp 4 1 k rfl (Nat.le_refl _) (Nat.le_trans (by decide) hk) (Or.inr (Utf.at_width s p hp).1)

theorem extract_drop (s : ByteArray) (p : Nat) : (s.extract p s.size).data.toList = s.data.toList.drop p := by
  rw [Lib.extract_data, List.take_of_length_le (by rw [List.length_drop, ← Lib.size_eq]; omega)]

/-- a byte below 128 is its own piece -/
theorem escV_proper (n m c0 sh : Int) (z : Nat) (hn0 : -1 ≤ n) (hn1 : n < 65536) (hm1 : m < 65536) (hs : sh ≤ 92) : (escV n m c0 sh z).2.2 = 0 → Utf.Proper (escV n m c0 sh z).1 := by
  unfold escV Utf.Proper
  repeat' split
  all_goals intro h
  all_goals simp at h ⊢
  all_goals omega
theorem escT_proper (t : ByteArray) : (escT t).2.2 = 0 → Utf.Proper (escT t).1 := by
  have h1 := numberedZ_range t
  have h2 := numberedZ_range (t.extract 6 t.size)
  have h3 := shortZ_range (bt t 1)
  exact escV_proper _ _ _ _ _ h1.1 h1.2.1 h2.2.1 h3.2
theorem decodeS_proper (s : ByteArray) (p : Nat) : Utf.Proper ((Utf8.decode s p).1 : Int) := by
  rw [← Lib.decodeL_drop]
  exact Utf.decode_proper _

set_option linter.unusedSimpArgs false

theorem refDigit_eq (c : Int) (h0 : 0 ≤ c) (h1 : c ≤ 255) (k : Nat) (hk : 2 ≤ k) : hallmarkref02_digit.f k c = some (digitZ c) := by
  obtain ⟨k, rfl⟩ : ∃ m, k = m + 2 := ⟨k - 2, by omega⟩
  have e1 : wrap64 (wrap64 c - 48) = c - 48 := by unfold wrap64; omega
  have e2 : wrap64 (wrap64 (wrap64 c - 97) + 10) = c - 87 := by unfold wrap64; omega
  have e3 : wrap64 (wrap64 (wrap64 c - 65) + 10) = c - 55 := by unfold wrap64; omega
  unfold hallmarkref02_digit.f digitZ
  by_cases a : 48 ≤ c
  · rw [if_pos a]
    by_cases b : c ≤ 57
    · rw [if_pos ⟨a, b⟩]
      simp only [hallmarkref02_digit.j0, decide_eq_true b, if_true, e1]
    · rw [if_neg (by omega)]
      simp only [hallmarkref02_digit.j0, decide_eq_false b, Bool.false_eq_true, if_false]
      by_cases d : 97 ≤ c
      · rw [if_pos d]
        by_cases e : c ≤ 102
        · rw [if_pos ⟨d, e⟩]
          simp only [hallmarkref02_digit.j1, decide_eq_true e, if_true, e2]
        · rw [if_neg (by omega), if_neg (by omega)]
          simp only [hallmarkref02_digit.j1, decide_eq_false e, Bool.false_eq_true, if_false]
          rw [if_pos (by omega), if_neg (by omega)]
      · rw [if_neg d, if_neg (by omega)]
        simp only [hallmarkref02_digit.j1, Bool.false_eq_true, if_false]
        by_cases e : 65 ≤ c
        · rw [if_pos e]
          by_cases g : c ≤ 70
          · rw [if_pos g, if_pos ⟨e, g⟩, e3]
          · rw [if_neg g, if_neg (by omega)]
        · rw [if_neg e, if_neg (by omega)]
  · rw [if_neg a, if_neg (by omega), if_neg (by omega), if_neg (by omega)]
    simp only [hallmarkref02_digit.j0, Bool.false_eq_true, if_false]
    rw [if_neg (by omega)]
    simp only [hallmarkref02_digit.j1, Bool.false_eq_true, if_false]
    rw [if_neg (by omega)]

set_option linter.unusedVariables false
theorem bt_extract (s : ByteArray) (p j : Nat) (h : p + j < s.size) : bt (s.extract p s.size) (j : Int) = bt s ((p + j : Nat) : Int) := by
  have hl : j < (s.extract p s.size).size := by rw [ByteArray.size_extract]; omega
  rw [← getD_bt s (p + j) h, ← getD_bt (s.extract p s.size) j hl, extract_drop, Lib.getD_dropU]
theorem extract_twice (s : ByteArray) (p q : Nat) (h : p ≤ s.size) : (s.extract p s.size).extract q (s.extract p s.size).size = s.extract (p + q) s.size := by
  apply ByteArray.ext
  apply Array.ext'
  have e1 := extract_drop (s.extract p s.size) q
  have e2 := extract_drop s p
  have e3 := extract_drop s (p + q)
  rw [e1, e2, e3, List.drop_drop]

theorem num_round (s : ByteArray) (p n k : Nat) (x : Int) (c : Int) (hp : p + 6 ≤ s.size) (hs : s.size ≤ 140737488351232) (hn : n < 4) (hx0 : 0 ≤ x) (hx1 : x < 65536) (hk : 2 ≤ k) (hc : bt s ((p + (2 + n) : Nat) : Int) = c) :
    hallmarkref02_numbered.l0 (k + 1) s p x ((2 + n : Nat) : Int) = if digitZ c < 0 then some (-1) else hallmarkref02_numbered.l0 k s p (x * 16 + digitZ c) ((2 + (n + 1) : Nat) : Int) := by
  have hr := Go.Proofs.YtkfcoikfhpabmaaDoorW.PrintWords.bt_range s ((p + (2 + n) : Nat) : Int)
  rw [hc] at hr
  have hd := digitZ_range c
  have hq : wrap64 ((p : Int) + ((2 + n : Nat) : Int)) = ((p + (2 + n) : Nat) : Int) := by unfold wrap64; omega
  have hw : wrap64 (((2 + n : Nat) : Int) + 1) = ((2 + (n + 1) : Nat) : Int) := by unfold wrap64; omega
  have hv : wrap64 (wrap64 (16 * x) + digitZ c) = x * 16 + digitZ c := by unfold wrap64; omega
  simp only [hallmarkref02_numbered.l0]
  rw [if_pos (by omega), hq, if_pos (by omega), if_pos (by omega), hc, refDigit_eq c hr.1 (by omega) k hk]
  simp only [Option.bind_some, hw, hv]

theorem refNumbered_eq (s : ByteArray) (hs : s.size ≤ 140737488351232) (p : Nat) (hp : p ≤ s.size) (k : Nat) (hk : 10 ≤ k) : hallmarkref02_numbered.f k s p = some (numberedZ (s.extract p s.size)) := by
  have hts : (s.extract p s.size).size = s.size - p := by rw [ByteArray.size_extract]; omega
  have hw6 : wrap64 ((p : Int) + 6) = ((p + 6 : Nat) : Int) := by unfold wrap64; omega
  have hw1 : wrap64 ((p : Int) + 1) = ((p + 1 : Nat) : Int) := by unfold wrap64; omega
  obtain ⟨k, rfl⟩ : ∃ m, k = m + 6 := ⟨k - 6, by omega⟩
  unfold hallmarkref02_numbered.f
  rw [hw6, hw1]
  by_cases h6 : p + 6 ≤ s.size
  · have e0 : bt (s.extract p s.size) 0 = bt s (p : Int) := bt_extract s p 0 (by omega)
    have e1 : bt (s.extract p s.size) 1 = bt s ((p + 1 : Nat) : Int) := bt_extract s p 1 (by omega)
    have e2 : bt (s.extract p s.size) 2 = bt s ((p + (2 + 0) : Nat) : Int) := bt_extract s p 2 (by omega)
    have e3 : bt (s.extract p s.size) 3 = bt s ((p + (2 + 1) : Nat) : Int) := bt_extract s p 3 (by omega)
    have e4 : bt (s.extract p s.size) 4 = bt s ((p + (2 + 2) : Nat) : Int) := bt_extract s p 4 (by omega)
    have e5 : bt (s.extract p s.size) 5 = bt s ((p + (2 + 3) : Nat) : Int) := bt_extract s p 5 (by omega)
    have hz : numberedZ (s.extract p s.size) = if bt s (p : Int) = 92 ∧ bt s ((p + 1 : Nat) : Int) = 117 then numZ (s.extract p s.size) else -1 := by
      unfold numberedZ
      rw [e0, e1]
      by_cases c : bt s (p : Int) = 92 ∧ bt s ((p + 1 : Nat) : Int) = 117
      · rw [if_pos c, if_pos ⟨by omega, c.1, c.2⟩]
      · rw [if_neg c, if_neg (fun g => c ⟨g.2.1, g.2.2⟩)]
    have hn : numZ (s.extract p s.size) = if digitZ (bt (s.extract p s.size) 2) < 0 ∨ digitZ (bt (s.extract p s.size) 3) < 0 ∨ digitZ (bt (s.extract p s.size) 4) < 0 ∨ digitZ (bt (s.extract p s.size) 5) < 0 then -1 else
        (((0 * 16 + digitZ (bt (s.extract p s.size) 2)) * 16 + digitZ (bt (s.extract p s.size) 3)) * 16 + digitZ (bt (s.extract p s.size) 4)) * 16 + digitZ (bt (s.extract p s.size) 5) := rfl
    rw [hz, hn, e2, e3, e4, e5, if_neg (by omega), if_pos (by omega), if_pos (by omega)]
    clear hz hn e0 e1 e2 e3 e4 e5
    obtain ⟨b0, hb0⟩ : ∃ b, bt s (p : Int) = b := ⟨_, rfl⟩
    obtain ⟨b1, hb1⟩ : ∃ b, bt s ((p + 1 : Nat) : Int) = b := ⟨_, rfl⟩
    obtain ⟨c0, hc0⟩ : ∃ b, bt s ((p + (2 + 0) : Nat) : Int) = b := ⟨_, rfl⟩
    obtain ⟨c1, hc1⟩ : ∃ b, bt s ((p + (2 + 1) : Nat) : Int) = b := ⟨_, rfl⟩
    obtain ⟨c2, hc2⟩ : ∃ b, bt s ((p + (2 + 2) : Nat) : Int) = b := ⟨_, rfl⟩
    obtain ⟨c3, hc3⟩ : ∃ b, bt s ((p + (2 + 3) : Nat) : Int) = b := ⟨_, rfl⟩
    rw [hb0, hb1, hc0, hc1, hc2, hc3]
    by_cases a0 : b0 = 92
    · rw [if_pos a0, if_pos (by omega), if_pos (by omega)]
      by_cases a1 : b1 = 117
      · have hj : (b1 != 117) = false := by rw [a1]; rfl
        rw [if_pos ⟨a0, a1⟩, hj]
        simp only [hallmarkref02_numbered.j0, Bool.false_eq_true, if_false]
        have d0 := digitZ_range c0
        have d1 := digitZ_range c1
        have d2 := digitZ_range c2
        have d3 := digitZ_range c3
        have r0 := num_round s p 0 (k + 4) 0 c0 h6 hs (by omega) (by omega) (by omega) (by omega) hc0
        have r1 := num_round s p 1 (k + 3) (0 * 16 + digitZ c0) c1 h6 hs (by omega)
        have r2 := num_round s p 2 (k + 2) ((0 * 16 + digitZ c0) * 16 + digitZ c1) c2 h6 hs (by omega)
        have r3 := num_round s p 3 (k + 1) (((0 * 16 + digitZ c0) * 16 + digitZ c1) * 16 + digitZ c2) c3 h6 hs (by omega)
        refine r0.trans ?_
        by_cases g0 : digitZ c0 < 0
        · rw [if_pos g0, if_pos (Or.inl g0)]
        · rw [if_neg g0]
          refine (r1 (by omega) (by omega) (by omega) hc1).trans ?_
          by_cases g1 : digitZ c1 < 0
          · rw [if_pos g1, if_pos (Or.inr (Or.inl g1))]
          · rw [if_neg g1]
            refine (r2 (by omega) (by omega) (by omega) hc2).trans ?_
            by_cases g2 : digitZ c2 < 0
            · rw [if_pos g2, if_pos (Or.inr (Or.inr (Or.inl g2)))]
            · rw [if_neg g2]
              refine (r3 (by omega) (by omega) (by omega) hc3).trans ?_
              by_cases g3 : digitZ c3 < 0
              · rw [if_pos g3, if_pos (Or.inr (Or.inr (Or.inr g3)))]
              · rw [if_neg g3, if_neg (by omega)]
                simp only [hallmarkref02_numbered.l0]
                rw [if_neg (by omega)]
      · have hj : (b1 != 117) = true := bne_iff_ne.2 a1
        rw [if_neg (fun g => a1 g.2), hj]
        simp only [hallmarkref02_numbered.j0, if_true]
    · rw [if_neg a0, if_neg (fun g => a0 g.1)]
      simp only [hallmarkref02_numbered.j0, if_true]
  · rw [if_pos (by omega)]
    unfold numberedZ
    rw [if_neg (by omega)]
    simp only [hallmarkref02_numbered.j0, if_true]

theorem short_all : ∀ c : Fin 256, hallmarkref02_short.f 130 (c.val : Int) = some (shortZ (c.val : Int)) := by decide +kernel
theorem refShort_eq (c : Int) (h0 : 0 ≤ c) (h1 : c ≤ 255) : ∀ n, hallmarkref02_short.f (n + 130) c = some (shortZ c)
  | 0 => by
    obtain ⟨m, rfl⟩ : ∃ m : Nat, c = m := ⟨c.toNat, by omega⟩
    exact short_all ⟨m, by omega⟩
  | n + 1 => hallmarkref02_short.mono c (n + 130) _ (refShort_eq c h0 h1 n)
theorem refShort_at (c : Int) (h0 : 0 ≤ c) (h1 : c ≤ 255) (k : Nat) (hk : 130 ≤ k) : hallmarkref02_short.f k c = some (shortZ c) := by
  obtain ⟨n, rfl⟩ : ∃ n, k = n + 130 := ⟨k - 130, by omega⟩
  exact refShort_eq c h0 h1 n

theorem refEscape_eq (s : ByteArray) (hs : s.size ≤ 140737488351232) (p : Nat) (hp : p < s.size) (k : Nat) (hk : 140 ≤ k) :
    hallmarkref02_Escape.f k s p = some ((escT (s.extract p s.size)).1, (p : Int) + (escT (s.extract p s.size)).2.1, (escT (s.extract p s.size)).2.2) := by
  have hts : (s.extract p s.size).size = s.size - p := by rw [ByteArray.size_extract]; omega
  have hw6 : wrap64 ((p : Int) + 6) = ((p + 6 : Nat) : Int) := by unfold wrap64; omega
  have hw12 : wrap64 ((p : Int) + 12) = (p : Int) + 12 := by unfold wrap64; omega
  have hw2 : wrap64 ((p : Int) + 2) = (p : Int) + 2 := by unfold wrap64; omega
  have hw1 : wrap64 ((p : Int) + 1) = ((p + 1 : Nat) : Int) := by unfold wrap64; omega
  obtain ⟨k, rfl⟩ : ∃ m, k = m + 2 := ⟨k - 2, by omega⟩
  have hnr := numberedZ_range (s.extract p s.size)
  have hnum := refNumbered_eq s hs p (by omega) (k + 1) (by omega)
  have e0 : bt (s.extract p s.size) 0 = bt s (p : Int) := bt_extract s p 0 (by omega)
  unfold escT
  rw [e0, hts, ← hts, extract_twice s p 6 (by omega), hts]
  rw [hts] at hnr
  obtain ⟨n, hn⟩ : ∃ n, numberedZ (s.extract p s.size) = n := ⟨_, rfl⟩
  rw [hn] at hnr hnum ⊢
  clear hn
  unfold hallmarkref02_Escape.f
  rw [if_neg (by omega), decide_eq_false (show ¬ ((p : Int) ≥ (s.size : Int)) by omega)]
  simp only [hallmarkref02_Escape.j0, Bool.false_eq_true, if_false]
  rw [hnum]
  rw [Option.bind_some]
  unfold escV
  by_cases c0 : n < 0
  · rw [if_pos c0, if_pos c0, if_pos (by omega), if_pos (by omega)]
    by_cases c1 : bt s (p : Int) = 92
    · rw [if_pos c1, hw1]
      by_cases c2 : p + 1 < s.size
      · have e1 : bt (s.extract p s.size) 1 = bt s ((p + 1 : Nat) : Int) := bt_extract s p 1 (by omega)
        have hr := Go.Proofs.YtkfcoikfhpabmaaDoorW.PrintWords.bt_range s ((p + 1 : Nat) : Int)
        rw [if_pos (by omega), if_pos (by omega), e1]
        have hsh := refShort_at (bt s ((p + 1 : Nat) : Int)) hr.1 (by omega) (k + 1) (by omega)
        rw [hsh]
        rw [Option.bind_some]
        by_cases c3 : 0 ≤ shortZ (bt s ((p + 1 : Nat) : Int))
        · rw [if_pos c3, if_pos ⟨by omega, c1, c3⟩, hw2]
          rfl
        · rw [if_neg c3, if_neg (fun g => c3 g.2.2)]
          simp
      · rw [if_neg (by omega), if_neg (by omega)]
        simp
    · rw [if_neg c1, if_neg (fun g => c1 g.2.1)]
      simp
  · rw [if_neg c0, if_neg c0]
    have h6 := hnr.2.2 (by omega)
    have plain : (n < 55296 ∨ 57343 < n) → hallmarkref02_Escape.j1 (k + 1) s p n true = some ((if 56320 ≤ n ∧ n ≤ 57343 then ((0, 0, 24) : Int × Int × Int) else if ¬ (55296 ≤ n ∧ n ≤ 56319) then (n, 6, 0)
        else if 56320 ≤ numberedZ (s.extract (p + 6) s.size) ∧ numberedZ (s.extract (p + 6) s.size) ≤ 57343 then (65536 + (n - 55296) * 1024 + (numberedZ (s.extract (p + 6) s.size) - 56320), 12, 0) else (0, 0, 24)).1,
        (p : Int) + (if 56320 ≤ n ∧ n ≤ 57343 then ((0, 0, 24) : Int × Int × Int) else if ¬ (55296 ≤ n ∧ n ≤ 56319) then (n, 6, 0)
        else if 56320 ≤ numberedZ (s.extract (p + 6) s.size) ∧ numberedZ (s.extract (p + 6) s.size) ≤ 57343 then (65536 + (n - 55296) * 1024 + (numberedZ (s.extract (p + 6) s.size) - 56320), 12, 0) else (0, 0, 24)).2.1,
        (if 56320 ≤ n ∧ n ≤ 57343 then ((0, 0, 24) : Int × Int × Int) else if ¬ (55296 ≤ n ∧ n ≤ 56319) then (n, 6, 0)
        else if 56320 ≤ numberedZ (s.extract (p + 6) s.size) ∧ numberedZ (s.extract (p + 6) s.size) ≤ 57343 then (65536 + (n - 55296) * 1024 + (numberedZ (s.extract (p + 6) s.size) - 56320), 12, 0) else (0, 0, 24)).2.2) := by
      intro h
      simp only [hallmarkref02_Escape.j1, if_true]
      rw [if_neg (by omega), if_pos (by omega), hw6]
      rfl
    by_cases c1 : n < 55296
    · rw [if_pos c1]
      exact plain (Or.inl c1)
    · rw [if_neg c1]
      by_cases c2 : n > 57343
      · rw [decide_eq_true c2]
        exact plain (Or.inr c2)
      · rw [decide_eq_false c2]
        clear plain
        have hm := refNumbered_eq s hs (p + 6) (by omega) k (by omega)
        have hmr := numberedZ_range (s.extract (p + 6) s.size)
        obtain ⟨m, hmm⟩ : ∃ m, numberedZ (s.extract (p + 6) s.size) = m := ⟨_, rfl⟩
        rw [hmm] at hm hmr ⊢
        clear hmm
        simp only [hallmarkref02_Escape.j1, Bool.false_eq_true, if_false]
        rw [hw6, hm]
        rw [Option.bind_some]
        by_cases c3 : n ≥ 56320
        · rw [if_pos c3, if_pos (by omega)]
          simp
        · rw [if_neg c3, if_neg (show ¬ (56320 ≤ n ∧ n ≤ 57343) by omega), if_neg (show ¬ ¬ (55296 ≤ n ∧ n ≤ 56319) by omega)]
          by_cases c4 : m < 56320
          · rw [if_pos c4, if_neg (by omega)]
            simp
          · rw [if_neg c4]
            by_cases c5 : m > 57343
            · rw [if_pos c5, if_neg (by omega)]
              simp
            · rw [if_neg c5, if_pos (by omega), hw12]
              have e : wrap64 (wrap64 (wrap64 (65536 + wrap64 (wrap64 (n - 55296) * 1024)) + m) - 56320) = 65536 + (n - 55296) * 1024 + (m - 56320) := by unfold wrap64; omega
              rw [e]

theorem nums_enc (l : List Int) : strOfNums (l.flatMap Lib.encodeRuneZ) = textZ l := by
  unfold strOfNums textZ
  congr 2
  rw [List.map_flatMap]
  rfl
theorem encZ_flat : ∀ l : List Int, (l.flatMap Lib.encodeRuneZ).length ≤ 4 * l.length
  | [] => Nat.le_refl _
  | r :: l => by
    have := encZ_flat l
    have := (Lib.encodeRuneZ_length r).2
    rw [List.flatMap_cons, List.length_append, List.length_cons]
    omega
theorem refText_loop (l : List Int) (hl : l.length ≤ 4194304) (hr : ∀ r ∈ l, Utf.Proper r) : ∀ (n i k : Nat), i + n = l.length → n + 8 < k → hallmarkref02_Text.l0 k l ((l.take i).flatMap Lib.encodeRuneZ) i = some (textZ l)
  | 0, i, k, hi, hk => by
    obtain ⟨k, rfl⟩ : ∃ m, k = m + 1 := ⟨k - 1, by omega⟩
    simp only [hallmarkref02_Text.l0]
    rw [if_neg (by omega), List.take_of_length_le (by omega), nums_enc]
  | n + 1, i, k, hi, hk => by
    obtain ⟨k, rfl⟩ : ∃ m, k = m + 1 := ⟨k - 1, by omega⟩
    have hlt : i < l.length := by omega
    have hw : wrap64 ((i : Int) + 1) = ((i + 1 : Nat) : Int) := by unfold wrap64; omega
    have ih := refText_loop l hl hr n (i + 1) k (by omega) (by omega)
    have hf := encZ_flat (l.take i)
    have h4 := (Lib.encodeRuneZ_length l[i]).2
    have ht : (l.take i).length ≤ i := List.length_take_le _ _
    simp only [hallmarkref02_Text.l0]
    rw [if_pos (by omega), if_pos (by omega), rd_nat l i hlt, refEnc_eq l[i] (hr _ (List.getElem_mem hlt)) k (by omega)]
    rw [Option.bind_some]
    rw [if_pos (by omega), hw]
    have e : (l.take i).flatMap Lib.encodeRuneZ ++ Lib.encodeRuneZ l[i] = (l.take (i + 1)).flatMap Lib.encodeRuneZ := by
      rw [List.take_succ_eq_append_getElem hlt, List.flatMap_append]
      simp
    rw [e]
    exact ih
theorem refText_eq (l : List Int) (hl : l.length ≤ 4194304) (hr : ∀ r ∈ l, Utf.Proper r) (k : Nat) (hk : l.length + 8 < k) : hallmarkref02_Text.f k l = some (textZ l) := by
  have := refText_loop l hl hr l.length 0 k (by omega) hk
  exact this

theorem refUnq_loop (s : ByteArray) (hs : s.size ≤ 1048576) : ∀ (d p k f : Nat) (x : List Int), s.size ≤ p + d → p ≤ s.size → (∀ r ∈ x, Utf.Proper r) → x.length ≤ p → s.size ≤ p + f → d + s.size + 200 ≤ k →
    hallmarkref02_Unquote.l0 k s p x = some (unq s f p (x.flatMap Lib.encodeRune)) := by
  have stop : ∀ (p k f : Nat) (x : List Int), ¬ p < s.size → 1 ≤ k → hallmarkref02_Unquote.l0 k s p x = some (unq s f p (x.flatMap Lib.encodeRune)) := by
    intro p k f x hp hk
    obtain ⟨k, rfl⟩ : ∃ m, k = m + 1 := ⟨k - 1, by omega⟩
    rw [unq_end s f p _ hp]
    simp only [hallmarkref02_Unquote.l0]
    rw [if_neg (by omega)]
    rfl
  intro d
  induction d with
  | zero =>
    intro p k f x h1 h2 _ _ _ hk
    exact stop p k f x (by omega) (by omega)
  | succ d ih =>
    intro p k f x h1 h2 hx hl hf hk
    by_cases hp : p < s.size
    · obtain ⟨k, rfl⟩ : ∃ m, k = m + 1 := ⟨k - 1, by omega⟩
      obtain ⟨f, rfl⟩ : ∃ m, f = m + 1 := ⟨f - 1, by omega⟩
      have hwd := Utf.at_width s p hp
      have hat := refAt_eq s (by omega) p hp k (by omega)
      have htx := refText_eq x (by omega) hx k (by omega)
      have hes := refEscape_eq s (by omega) p hp k (by omega)
      have her := escT_range (s.extract p s.size)
      have hep := escT_proper (s.extract p s.size)
      have hdp := decodeS_proper s p
      have hback := decode_back s p hp 34 (by decide)
      have hts : (s.extract p s.size).size = s.size - p := by rw [ByteArray.size_extract]; omega
      rw [hts] at her
      unfold atZ strayAt at hat
      have snoc : ∀ (r : Int), Utf.Proper r → ∀ y ∈ x ++ [r], Utf.Proper y := by
        intro r h y hy
        rcases List.mem_append.1 hy with g | g
        · exact hx y g
        · rw [List.mem_singleton.1 g]
          exact h
      have flat : ∀ r : Int, x.flatMap Lib.encodeRune ++ Lib.encodeRune r = (x ++ [r]).flatMap Lib.encodeRune := by
        intro r
        simp
      have go : ∀ (q : Nat) (r : Int), p + 1 ≤ q → q ≤ s.size → Utf.Proper r → hallmarkref02_Unquote.l0 k s q (x ++ [r]) = some (unq s f q (x.flatMap Lib.encodeRune ++ Lib.encodeRune r)) := by
        intro q r g1 g2 g3
        rw [flat]
        exact ih q k f (x ++ [r]) (by omega) g2 (snoc r g3) (by rw [List.length_append]; simp only [List.length_cons, List.length_nil]; omega) (by omega) (by omega)
      clear ih stop
      obtain ⟨e, he⟩ : ∃ e, escT (s.extract p s.size) = e := ⟨_, rfl⟩
      obtain ⟨c, hc⟩ : ∃ c, Utf8.decode s p = c := ⟨_, rfl⟩
      obtain ⟨e1, e2, e3⟩ := e
      obtain ⟨c1, c2⟩ := c
      rw [he] at hes her hep
      rw [hc] at hat hdp hback hwd
      simp only at hat hdp hback hwd hes her hep
      unfold unq
      rw [hc, he]
      simp only [hallmarkref02_Unquote.l0]
      rw [if_pos (by omega), if_pos hp, hat]
      rw [Option.bind_some]
      dsimp only
      by_cases a1 : c1 = 34
      · rw [if_pos (by omega), if_pos a1, htx]
        rw [Option.bind_some]
        rw [(hback a1).2]
        rfl
      · rw [if_neg (by omega), if_neg a1]
        by_cases a2 : c1 < 32
        · rw [if_pos (by omega), if_pos a2]
          rfl
        · rw [if_neg (by omega), if_neg a2]
          by_cases a3 : c1 = 65533 ∧ c2 = 1
          · rw [decide_eq_true a3, if_pos rfl, if_pos a3]
            rfl
          · rw [decide_eq_false a3, if_neg (by decide), if_neg a3]
            by_cases a4 : c1 = 92
            · rw [if_pos (by omega), if_pos a4, hes]
              rw [Option.bind_some]
              dsimp only
              by_cases a5 : e3 = 0
              · have hr := her a5
                rw [if_pos a5, if_pos a5, if_pos (by omega)]
                have hq : (p : Int) + e2 = ((p + e2.toNat : Nat) : Int) := by omega
                rw [hq]
                exact go (p + e2.toNat) e1 (by omega) (by omega) (hep a5)
              · rw [if_neg a5, if_neg a5]
                rfl
            · rw [if_neg (by omega), if_neg a4, if_pos (by omega)]
              exact go (p + c2) (c1 : Int) (by omega) (by omega) hdp
    · exact stop p k f x hp (by omega)

theorem refUnq_eq (s : ByteArray) (hs : s.size ≤ 1048576) (a : Int) (k : Nat) (hk : 2 * s.size + 300 ≤ k) : hallmarkref02_Unquote.f k s a = some (unqAt s a) := by
  obtain ⟨k, rfl⟩ : ∃ m, k = m + 1 := ⟨k - 1, by omega⟩
  unfold hallmarkref02_Unquote.f unqAt
  by_cases c0 : a < 0
  · rw [if_pos c0, if_pos (Or.inl c0)]
    simp only [hallmarkref02_Unquote.j0, if_true]
    rfl
  · rw [if_neg c0]
    by_cases c1 : a ≥ (s.size : Int)
    · rw [decide_eq_true c1, if_pos (Or.inr c1)]
      simp only [hallmarkref02_Unquote.j0, if_true]
      rfl
    · rw [decide_eq_false c1, if_neg (by omega)]
      simp only [hallmarkref02_Unquote.j0, Bool.false_eq_true, if_false]
      rw [if_pos (by omega), if_pos (by omega)]
      obtain ⟨p, rfl⟩ : ∃ p : Nat, a = p := ⟨a.toNat, by omega⟩
      by_cases c2 : bt s (p : Int) = 34
      · have hw : wrap64 ((p : Int) + 1) = ((p + 1 : Nat) : Int) := by unfold wrap64; omega
        rw [if_pos c2, if_neg (fun g => g c2), hw, Int.toNat_natCast]
        exact refUnq_loop s hs s.size (p + 1) k s.size [] (by omega) (by omega) (by simp) (by simp) (by omega) (by omega)
      · rw [if_neg c2, if_pos c2]
        rfl


theorem refMark_eq (c : Int) : hallmarkref04_mark.f c = some (markT c) := by
  unfold hallmarkref04_mark.f markT
  repeat' split
  all_goals rfl
theorem refLetter_eq (c : Int) : hallmarkref04_letter.f c = some (letterT c) := by
  have e : hallmarkref04_letter.f c = token_isLetter.f c := rfl
  rw [e]
  unfold letterT token_isLetter.f
  repeat' split
  all_goals first | rfl | (rename_i b _; cases b <;> rfl) | (cases (c == 95) <;> rfl)
theorem refDig_eq (c : Int) : hallmarkref04_digit.f c = some (digitT c) := by
  have e : hallmarkref04_digit.f c = token_isDigit.f c := rfl
  rw [e]
  unfold digitT token_isDigit.f
  repeat' split
  all_goals first | rfl | (cases (decide (c ≤ 57)) <;> rfl)
theorem refBlank_eq (c : Int) : hallmarkref04_Blank.f c = some (blankT c) := by
  unfold hallmarkref04_Blank.f blankT
  by_cases h1 : c = 32
  · rw [if_pos h1, h1]; rfl
  rw [if_neg h1]
  by_cases h2 : c = 9
  · rw [if_pos h2, h2]; rfl
  rw [if_neg h2]
  by_cases h3 : c = 10
  · rw [if_pos h3, h3]; rfl
  rw [if_neg h3, beq_eq_false_iff_ne.2 h1, beq_eq_false_iff_ne.2 h2, beq_eq_false_iff_ne.2 h3]
  rfl
theorem refWordEnd_loop (s : ByteArray) (hs : s.size ≤ 1048576) : ∀ (n i k : Nat), i + n = s.size → n < k → hallmarkref04_wordEnd.l0 k s (i : Int) = some ((runEnd wordT s n i : Nat) : Int)
  | 0, i, k, hi, hk => by
    obtain ⟨k, rfl⟩ : ∃ m, k = m + 1 := ⟨k - 1, by omega⟩
    rw [hallmarkref04_wordEnd.l0, if_neg (by omega)]
    rfl
  | n + 1, i, k, hi, hk => by
    obtain ⟨k, rfl⟩ : ∃ m, k = m + 1 := ⟨k - 1, by omega⟩
    have hw : wrap64 ((i : Int) + 1) = ((i + 1 : Nat) : Int) := by unfold wrap64; omega
    have ih := refWordEnd_loop s hs n (i + 1) k (by omega) (by omega)
    have hr : runEnd wordT s (n + 1) i = if (letterT (bt s (i : Int)) || digitT (bt s (i : Int))) = true then runEnd wordT s n (i + 1) else i := by
      rw [runEnd, if_pos (by omega)]
      rfl
    rw [hallmarkref04_wordEnd.l0, if_pos (by omega), if_pos (by omega), refLetter_eq, Option.bind_some, refDig_eq, Option.bind_some, hw, ih, hr]
    cases letterT (bt s (i : Int)) <;> cases digitT (bt s (i : Int)) <;> rfl
theorem refWordEnd_eq (s : ByteArray) (hs : s.size ≤ 1048576) (i k : Nat) (hi : i ≤ s.size) (hk : s.size < k) : hallmarkref04_wordEnd.f k s (i : Int) = some ((runEnd wordT s (s.size - i) i : Nat) : Int) :=
  refWordEnd_loop s hs (s.size - i) i k (by omega) (by omega)
theorem refNumEnd_loop (s : ByteArray) (hs : s.size ≤ 1048576) : ∀ (n i k : Nat), i + n = s.size → n < k → hallmarkref04_numeralEnd.l0 k s (i : Int) = some ((runEnd numT s n i : Nat) : Int)
  | 0, i, k, hi, hk => by
    obtain ⟨k, rfl⟩ : ∃ m, k = m + 1 := ⟨k - 1, by omega⟩
    rw [hallmarkref04_numeralEnd.l0, if_neg (by omega)]
    rfl
  | n + 1, i, k, hi, hk => by
    obtain ⟨k, rfl⟩ : ∃ m, k = m + 1 := ⟨k - 1, by omega⟩
    have hw : wrap64 ((i : Int) + 1) = ((i + 1 : Nat) : Int) := by unfold wrap64; omega
    have ih := refNumEnd_loop s hs n (i + 1) k (by omega) (by omega)
    have hr : runEnd numT s (n + 1) i = if (letterT (bt s (i : Int)) || digitT (bt s (i : Int)) || (bt s (i : Int) == 43 || bt s (i : Int) == 45 || bt s (i : Int) == 46)) = true then runEnd numT s n (i + 1) else i := by
      rw [runEnd, if_pos (by omega)]
      rfl
    rw [hallmarkref04_numeralEnd.l0, if_pos (by omega), if_pos (by omega), refLetter_eq, Option.bind_some, refDig_eq, Option.bind_some, hw, ih, hr]
    obtain ⟨c, hc⟩ : ∃ c, bt s (i : Int) = c := ⟨_, rfl⟩
    rw [hc]
    cases letterT c
    · cases digitT c
      · rw [if_neg (by decide), if_neg (by decide)]
        by_cases h1 : c = 43
        · rw [if_pos h1, h1]; rfl
        rw [if_neg h1]
        by_cases h2 : c = 45
        · rw [if_pos h2, h2]; rfl
        rw [if_neg h2]
        by_cases h3 : c = 46
        · rw [if_pos h3, h3]; rfl
        rw [if_neg h3, beq_eq_false_iff_ne.2 h1, beq_eq_false_iff_ne.2 h2, beq_eq_false_iff_ne.2 h3]
        rfl
      · rfl
    · rfl
theorem refNumEnd_eq (s : ByteArray) (hs : s.size ≤ 1048576) (i k : Nat) (hi : i ≤ s.size) (hk : s.size < k) : hallmarkref04_numeralEnd.f k s (i : Int) = some ((runEnd numT s (s.size - i) i : Nat) : Int) :=
  refNumEnd_loop s hs (s.size - i) i k (by omega) (by omega)
theorem refWord_eq (t : ByteArray) : hallmarkref04_word.f t = some (wordK t) := by
  unfold hallmarkref04_word.f wordK
  rw [ByteArray.toList_eq]
  repeat' split
  all_goals rfl

/-- are all bytes from a place on digits? -/
def digitsFrom (t : ByteArray) : Nat → Nat → Bool
  | 0, _ => true
  | f + 1, i => if i < t.size then (if bt t (i : Int) < 48 then false else if bt t (i : Int) > 57 then false else digitsFrom t f (i + 1)) else true
theorem tens_l0 (t : ByteArray) (hs : t.size ≤ 1048576) : ∀ (n i k : Nat), i + n = t.size → n < k → tens_Formed.l0 k t t.size (i : Int) = some (digitsFrom t n i)
  | 0, i, k, hi, hk => by
    obtain ⟨k, rfl⟩ : ∃ m, k = m + 1 := ⟨k - 1, by omega⟩
    rw [tens_Formed.l0, if_neg (by omega)]
    rfl
  | n + 1, i, k, hi, hk => by
    obtain ⟨k, rfl⟩ : ∃ m, k = m + 1 := ⟨k - 1, by omega⟩
    have hw : wrap64 ((i : Int) + 1) = ((i + 1 : Nat) : Int) := by unfold wrap64; omega
    have hr : digitsFrom t (n + 1) i = (if bt t (i : Int) < 48 then false else if bt t (i : Int) > 57 then false else digitsFrom t n (i + 1)) := by rw [digitsFrom, if_pos (by omega)]
    rw [tens_Formed.l0, if_pos (by omega), if_pos (by omega), if_pos (by omega), hw, tens_l0 t hs n (i + 1) k (by omega) (by omega), hr]
    repeat' split
    all_goals rfl
theorem ref_l0 (t : ByteArray) (hs : t.size ≤ 1048576) (f : Nat) (hf : f < t.size) : ∀ (n i k : Nat), i + n = t.size → n < k → hallmarkref01_Formed.l0 k t (f : Int) (i : Int) = some (digitsFrom t n i && (if bt t (f : Int) = 48 then t.toList == ([48] : List UInt8) else true))
  | 0, i, k, hi, hk => by
    obtain ⟨k, rfl⟩ : ∃ m, k = m + 1 := ⟨k - 1, by omega⟩
    rw [hallmarkref01_Formed.l0, if_neg (by omega), if_pos (by omega), if_pos (by omega), digitsFrom, Bool.true_and]
    split <;> rfl
  | n + 1, i, k, hi, hk => by
    obtain ⟨k, rfl⟩ : ∃ m, k = m + 1 := ⟨k - 1, by omega⟩
    have hw : wrap64 ((i : Int) + 1) = ((i + 1 : Nat) : Int) := by unfold wrap64; omega
    have hr : digitsFrom t (n + 1) i = (if bt t (i : Int) < 48 then false else if bt t (i : Int) > 57 then false else digitsFrom t n (i + 1)) := by rw [digitsFrom, if_pos (by omega)]
    rw [hallmarkref01_Formed.l0, if_pos (by omega), if_pos (by omega), hw, ref_l0 t hs f hf n (i + 1) k (by omega) (by omega), hr]
    by_cases a : bt t (i : Int) < 48
    · rw [if_pos a, if_pos a]; rfl
    rw [if_neg a, if_neg a]
    by_cases b : bt t (i : Int) > 57
    · rw [if_pos b, if_pos b]; rfl
    rw [if_neg b, if_neg b]
theorem digits_shift (t : ByteArray) (ht : 1 ≤ t.size) : ∀ (n i : Nat), i + n + 1 = t.size → digitsFrom (t.extract 1 t.size) n i = digitsFrom t n (i + 1)
  | 0, i, hi => rfl
  | n + 1, i, hi => by
    have hz : (t.extract 1 t.size).size = t.size - 1 := by rw [ByteArray.size_extract]; omega
    have hb : bt (t.extract 1 t.size) (i : Int) = bt t ((i + 1 : Nat) : Int) := by
      rw [bt_ext t 1 i (by omega), Nat.add_comm 1 i]
    have r1 : digitsFrom (t.extract 1 t.size) (n + 1) i = (if bt t ((i + 1 : Nat) : Int) < 48 then false else if bt t ((i + 1 : Nat) : Int) > 57 then false else digitsFrom (t.extract 1 t.size) n (i + 1)) := by
      rw [digitsFrom, if_pos (show i < (t.extract 1 t.size).size by omega), hb]
    have r2 : digitsFrom t (n + 1) (i + 1) = (if bt t ((i + 1 : Nat) : Int) < 48 then false else if bt t ((i + 1 : Nat) : Int) > 57 then false else digitsFrom t n (i + 1 + 1)) := by
      rw [digitsFrom, if_pos (show i + 1 < t.size by omega)]
    rw [r1, r2, digits_shift t ht n (i + 1) (by omega)]

theorem digits_none (t : ByteArray) (n : Nat) : digitsFrom t n t.size = true := by
  cases n with
  | zero => rfl
  | succ n => rw [digitsFrom, if_neg (by omega)]
theorem tens_j1 (t : ByteArray) (hs : t.size ≤ 1048576) (k : Nat) (hk : t.size + 4 ≤ k) : tens_Formed.j1 k t = some (if t.size = 0 then false else if bt t 0 = 48 then false else digitsFrom t t.size 0) := by
  obtain ⟨k, rfl⟩ : ∃ m, k = m + 2 := ⟨k - 2, by omega⟩
  rw [tens_Formed.j1]
  by_cases a : t.size = 0
  · have e : t.toList = [] := by
      rw [ByteArray.toList_eq]
      exact List.eq_nil_of_length_eq_zero (by rw [← Lib.size_eq]; exact a)
    rw [if_pos e, if_pos a, tens_Formed.j2, if_pos rfl]
  · have e : ¬ t.toList = [] := by
      rw [ByteArray.toList_eq]
      intro c
      have := congrArg List.length c
      rw [← Lib.size_eq] at this
      exact a this
    rw [if_neg e, if_pos (by omega), if_neg a, tens_Formed.j2]
    by_cases b : bt t 0 = 48
    · rw [if_pos b, b]
      rfl
    · rw [if_neg b, beq_eq_false_iff_ne.2 b, if_neg (by decide)]
      exact tens_l0 t hs t.size 0 k (by omega) (by omega)
theorem formedB_eq (t : ByteArray) (hs : t.size ≤ 1048576) : formedB t = (if t.toList = [48] then true else if t.size = 0 then false else if bt t 0 = 45 then (if t.size = 1 then false else if bt t 1 = 48 then false else digitsFrom t t.size 1) else if bt t 0 = 48 then false else digitsFrom t t.size 0) := by
  have h := formed_some t (by omega)
  refine Option.some.inj (h.symm.trans ?_)
  unfold tens_Formed.f
  by_cases a : t.toList = [48]
  · rw [if_pos a, if_pos a]
  rw [if_neg a, if_neg a]
  by_cases b : t.size = 0
  · have e : t.toList = [] := by
      rw [ByteArray.toList_eq]
      exact List.eq_nil_of_length_eq_zero (by rw [← Lib.size_eq]; exact b)
    rw [if_pos e, if_pos b, show t.size + 6 = (t.size + 5) + 1 from rfl, tens_Formed.j0, if_neg (by decide), tens_j1 t hs _ (by omega), if_pos b]
  · have e : ¬ t.toList = [] := by
      rw [ByteArray.toList_eq]
      intro c
      have := congrArg List.length c
      rw [← Lib.size_eq] at this
      exact b this
    rw [if_neg e, if_pos (by omega), if_neg b, show t.size + 6 = (t.size + 5) + 1 from rfl, tens_Formed.j0]
    by_cases c : bt t 0 = 45
    · have hz : (t.extract 1 t.size).size = t.size - 1 := by rw [ByteArray.size_extract]; omega
      rw [c, if_pos (by rfl), if_pos (by omega), tens_j1 (t.extract 1 t.size) (by omega) _ (by omega), hz, if_pos rfl]
      by_cases d : t.size = 1
      · rw [if_pos d, if_pos (by omega)]
      · have hb : bt (t.extract 1 t.size) 0 = bt t 1 := bt_ext t 1 0 (by omega)
        have hd := digits_shift t (by omega) (t.size - 1) 0 (by omega)
        have hd2 : digitsFrom t (t.size - 1) 1 = digitsFrom t t.size 1 := by
          have key : ∀ (n i : Nat), i + n = t.size → digitsFrom t n i = digitsFrom t (n + 1) i := by
            intro n
            induction n with
            | zero => intro i hi; rw [digitsFrom, digitsFrom, if_neg (by omega)]
            | succ n ih => intro i hi; rw [digitsFrom, ih (i + 1) (by omega), digitsFrom]; rfl
          have := key (t.size - 1) 1 (by omega)
          rw [this, show t.size - 1 + 1 = t.size by omega]
        rw [if_neg d, if_neg (by omega), hb, hd, hd2]
    · rw [beq_eq_false_iff_ne.2 c, if_neg (by decide), tens_j1 t hs _ (by omega), if_neg b, if_neg c]
theorem refFormed_eq (t : ByteArray) (hs : t.size ≤ 1048576) (k : Nat) (hk : t.size + 6 ≤ k) : hallmarkref01_Formed.f k t = some (formedB t) := by
  rw [formedB_eq t hs]
  obtain ⟨k, rfl⟩ : ∃ m, k = m + 2 := ⟨k - 2, by omega⟩
  unfold hallmarkref01_Formed.f
  by_cases b : t.size = 0
  · have e : ¬ t.toList = [48] := by
      rw [ByteArray.toList_eq]
      intro c
      have := congrArg List.length c
      rw [← Lib.size_eq, b] at this
      cases this
    rw [if_neg (by omega), if_neg e, if_pos b, hallmarkref01_Formed.j0, if_neg (by decide), hallmarkref01_Formed.j1, if_pos (by omega)]
  · rw [if_pos (by omega), if_pos (by omega), hallmarkref01_Formed.j0]
    have one : t.toList = [48] → bt t 0 = 48 ∧ t.size = 1 := by
      intro e
      rw [ByteArray.toList_eq] at e
      have h1 : t.size = 1 := by rw [Lib.size_eq, e]; rfl
      have := getD_bt t 0 (by omega)
      rw [e] at this
      exact ⟨this.symm, h1⟩
    by_cases c : bt t 0 = 45
    · have e : ¬ t.toList = [48] := fun h => by
        have := (one h).1
        omega
      rw [c, if_pos (by rfl), if_neg e, if_neg b, if_pos rfl, hallmarkref01_Formed.j1]
      by_cases d : t.size = 1
      · rw [if_pos d, if_pos (by omega)]
      · rw [if_neg d, if_neg (by omega)]
        have h1 := ref_l0 t hs 1 (by omega) (t.size - 1) 1 k (by omega) (by omega)
        have key : ∀ (n i : Nat), i + n = t.size → digitsFrom t n i = digitsFrom t (n + 1) i := by
          intro n
          induction n with
          | zero => intro i hi; rw [digitsFrom, digitsFrom, if_neg (by omega)]
          | succ n ih => intro i hi; rw [digitsFrom, ih (i + 1) (by omega), digitsFrom]; rfl
        have hk2 := key (t.size - 1) 1 (by omega)
        rw [show t.size - 1 + 1 = t.size by omega] at hk2
        refine Eq.trans h1 ?_
        rw [hk2]
        show some (_ && (if bt t 1 = 48 then _ else _)) = _
        by_cases f : bt t 1 = 48
        · rw [if_pos f, if_pos f, beq_eq_false_iff_ne.2 e, Bool.and_false]
        · rw [if_neg f, if_neg f, Bool.and_true]
    · rw [beq_eq_false_iff_ne.2 c, if_neg (by decide), if_neg b, if_neg c, hallmarkref01_Formed.j1, if_neg (by omega)]
      have h1 := ref_l0 t hs 0 (by omega) t.size 0 k (by omega) (by omega)
      refine Eq.trans h1 ?_
      show some (_ && (if bt t 0 = 48 then _ else _)) = _
      by_cases e : t.toList = [48]
      · have := one e
        rw [if_pos e, if_pos this.1, beq_iff_eq.2 e, Bool.and_true, this.2, digitsFrom, if_pos (by omega), if_neg (by show ¬ bt t 0 < 48; omega), if_neg (by show ¬ bt t 0 > 57; omega)]
        rfl
      · rw [if_neg e]
        by_cases f : bt t 0 = 48
        · rw [if_pos f, if_pos f, beq_eq_false_iff_ne.2 e, Bool.and_false]
        · rw [if_neg f, if_neg f, Bool.and_true]

theorem mark_pos (c : Int) : markT c > 0 ↔ markT c ≠ 0 := by
  unfold markT
  repeat' split
  all_goals simp
theorem refNext_eq (s : ByteArray) (hs : s.size ≤ 1048576) (i : Nat) (hi : i < s.size) (k : Nat) (hk : 2 * s.size + 400 ≤ k) :
    hallmarkref04_Next.f k s (i : Int) = some (if (tokR s i).e = 0 then ((tokR s i).kind, (i : Int), ((tokR s i).pos : Int), (tokR s i).text, 0, 0) else (0, 0, 0, ⟨#[]⟩, (tokR s i).e, (tokR s i).place)) := by
  obtain ⟨k, rfl⟩ : ∃ m, k = m + 1 := ⟨k - 1, by omega⟩
  unfold hallmarkref04_Next.f
  rw [if_pos (by omega), if_pos (by omega), refMark_eq, Option.bind_some]
  have hw : wrap64 ((i : Int) + 1) = ((i + 1 : Nat) : Int) := by unfold wrap64; omega
  by_cases c1 : markT (bt s (i : Int)) ≠ 0
  · have ht : tokR s i = ⟨0, 0, markT (bt s (i : Int)), i + 1, ⟨#[]⟩⟩ := by unfold tokR; rw [if_pos c1]
    rw [ht, if_pos ((mark_pos _).2 c1), Option.bind_some, hw]
    rfl
  rw [if_neg (fun h => c1 ((mark_pos _).1 h))]
  by_cases c2 : bt s (i : Int) = 34
  · have l0 : ¬ letterT (bt s (i : Int)) = true := by rw [c2]; decide
    have d0 : ¬ (digitT (bt s (i : Int)) = true ∨ bt s (i : Int) = 45) := by rw [c2]; decide
    have ht : tokR s i = (if (unqAt s i).2.2 = 0 then ⟨0, 0, 11, (unqAt s i).2.1.toNat, (unqAt s i).1⟩ else ⟨(unqAt s i).2.2, (unqAt s i).2.1, 0, i, ⟨#[]⟩⟩) := by unfold tokR; rw [if_neg c1, if_neg l0, if_neg d0, if_pos c2]
    rw [ht, if_pos c2, refUnq_eq s hs i _ (by omega), Option.bind_some]
    by_cases c3 : (unqAt s (i : Int)).2.2 = 0
    · have hr := c3
      rw [unqAt_at s i hi c2] at hr
      have hr2 := unq_range s s.size (i + 1) [] (by omega) hr
      rw [← unqAt_at s i hi c2] at hr2
      rw [if_pos c3, if_pos c3]
      simp only
      rw [if_pos trivial, Int.toNat_of_nonneg (by omega)]
    · rw [if_neg c3, if_neg c3]
      simp only
      rw [if_neg c3]
  rw [if_neg c2, refLetter_eq, Option.bind_some]
  by_cases c3 : letterT (bt s (i : Int)) = true
  · have hb := runEnd_bounds wordT s (s.size - i) i (by omega)
    obtain ⟨E, hE⟩ : ∃ E, runEnd wordT s (s.size - i) i = E := ⟨_, rfl⟩
    have ht : tokR s i = (if wordK (s.extract i E) = 0 then ⟨41, i, 0, i, ⟨#[]⟩⟩ else ⟨0, 0, wordK (s.extract i E), E, ⟨#[]⟩⟩) := by unfold tokR; rw [if_neg c1, if_pos c3, hE]
    rw [ht, if_pos c3, refWordEnd_eq s hs i _ (by omega) (by omega), hE, Option.bind_some]
    rw [hE] at hb
    rw [if_pos (by omega), if_pos (by omega), refWord_eq, Option.bind_some, Int.toNat_natCast, Int.toNat_natCast]
    by_cases c4 : wordK (s.extract i E) = 0
    · rw [if_pos c4, if_pos c4]
      rfl
    · rw [if_neg c4, if_neg c4]
      rfl
  rw [if_neg c3, refDig_eq, Option.bind_some]
  have hb := runEnd_bounds numT s (s.size - i) i (by omega)
  obtain ⟨E, hE⟩ : ∃ E, runEnd numT s (s.size - i) i = E := ⟨_, rfl⟩
  have num : (digitT (bt s (i : Int)) = true ∨ bt s (i : Int) = 45) → hallmarkref04_Next.j0 (k + 1) s (i : Int) false = some (if (tokR s i).e = 0 then ((tokR s i).kind, (i : Int), ((tokR s i).pos : Int), (tokR s i).text, 0, 0) else (0, 0, 0, ⟨#[]⟩, (tokR s i).e, (tokR s i).place)) := by
    intro c4
    have ht : tokR s i = (if formedB (numB (s.extract i E)) = true then ⟨0, 0, 10, E, numB (s.extract i E)⟩ else ⟨42, i, 0, i, ⟨#[]⟩⟩) := by unfold tokR; rw [if_neg c1, if_neg c3, if_pos c4, hE]
    rw [ht, hallmarkref04_Next.j0, if_neg (by decide), refNumEnd_eq s hs i _ (by omega) (by omega), hE, Option.bind_some]
    rw [hE] at hb
    rw [if_pos (by omega), if_pos (by omega), if_pos (by omega), Int.toNat_natCast, Int.toNat_natCast]
    have hz : (s.extract i E).size ≤ s.size := by rw [ByteArray.size_extract]; omega
    unfold numB
    rw [ByteArray.toList_eq]
    by_cases c4 : (s.extract i E).data.toList = [45, 48]
    · rw [if_pos c4, if_pos c4, refFormed_eq ⟨#[48]⟩ (by decide) _ (by show 1 + 6 ≤ _; omega), Option.bind_some]
      cases formedB ⟨#[48]⟩ <;> rfl
    · rw [if_neg c4, if_neg c4, refFormed_eq (s.extract i E) (by omega) _ (by omega), Option.bind_some]
      cases formedB (s.extract i E) <;> rfl
  by_cases c4 : digitT (bt s (i : Int)) = true
  · rw [if_pos c4, num (Or.inl c4)]
  · rw [if_neg c4]
    by_cases c5 : bt s (i : Int) = 45
    · have hx : (bt s (i : Int) != 45) = false := by rw [c5]; rfl
      rw [hx, num (Or.inr c5)]
    · have ht : tokR s i = ⟨40, i, 0, i, ⟨#[]⟩⟩ := by unfold tokR; rw [if_neg c1, if_neg c3, if_neg (by rintro (h | h); exact c4 h; exact c5 h), if_neg c2]
      rw [ht, bne_iff_ne.2 c5, hallmarkref04_Next.j0, if_pos rfl]
      rfl

abbrev vTok (t : Tok) : Go.Proofs.YtkfcoikfhpabmaaDoor.V.S31 := ⟨t.f0, t.f1, t.f2, t.f3⟩
theorem refAhead_loop (s : ByteArray) (hs : s.size ≤ 1048576) : ∀ (f i k : Nat) (toks : List Tok), i ≤ s.size → s.size < i + f → 3 * s.size + 500 + f ≤ k → toks.length ≤ i →
    hallmarkref04_Ahead.l0 k s (toks.map vTok) (i : Int) = some ((aheadZ s f i toks).1.map vTok, (aheadZ s f i toks).2.1, (aheadZ s f i toks).2.2)
  | 0, i, k, toks, hi, hf, hk, hl => by omega
  | f + 1, i, k, toks, hi, hf, hk, hl => by
    obtain ⟨k, rfl⟩ : ∃ m, k = m + 1 := ⟨k - 1, by omega⟩
    have hw : wrap64 ((i : Int) + 1) = ((i + 1 : Nat) : Int) := by unfold wrap64; omega
    rw [hallmarkref04_Ahead.l0, aheadZ_step]
    by_cases hp : i < s.size
    · rw [if_pos (by omega), if_pos (by omega), refBlank_eq, Option.bind_some, if_pos hp]
      by_cases hb : blankT (bt s (i : Int)) = true
      · rw [if_pos hb, if_pos hb, hw]
        exact refAhead_loop s hs f (i + 1) k toks (by omega) (by omega) (by omega) (by omega)
      · rw [if_neg hb, if_neg hb, refNext_eq s hs i hp k (by omega), Option.bind_some]
        by_cases he : (tokR s i).e = 0
        · have hr := tokR_range s i hp he
          rw [if_pos he, if_pos he]
          simp only
          rw [if_pos trivial, if_pos (by rw [List.length_map]; omega)]
          have ih := refAhead_loop s hs f (tokR s i).pos k (toks ++ [⟨(tokR s i).kind, i, (tokR s i).pos, (tokR s i).text⟩]) (by omega) (by omega) (by omega) (by rw [List.length_append, List.length_singleton]; omega)
          rw [List.map_append] at ih
          exact ih
        · rw [if_neg he, if_neg he]
          simp only
          rw [if_neg he]
    · rw [if_neg (by omega), if_neg hp]
theorem refAhead_eq (s : ByteArray) (hs : s.size ≤ 1048576) (k : Nat) (hk : 4 * s.size + 600 ≤ k) :
    hallmarkref04_Ahead.f k s = some ((aheadZ s (s.size + 1) 0 []).1.map vTok, (aheadZ s (s.size + 1) 0 []).2.1, (aheadZ s (s.size + 1) 0 []).2.2) :=
  refAhead_loop s hs (s.size + 1) 0 k [] (Nat.zero_le _) (by omega) (by omega) (Nat.le_refl _)
end Go.Proofs.YtkfcoikfhpabmaaDoor.R

namespace Go.Proofs.YtkfcoikfhpabmaaDoor.U
open Go.RowKit Go.Proofs.YtkfcoikfhpabmaaDoorW.PrintWords Go.Proofs.YtkfcoikfhpabmaaDoor.R
set_option linter.unusedSimpArgs false
set_option linter.unusedVariables false
attribute [local go_sem] Oper.semAt_some

/-! ### The document's list as it lies in memory -/
theorem reps_own {w : World} {base : Nat} {ok : Nat → Prop} : ∀ (l : List Tok) (cs : List Value), Reps (Go.Proofs.YtkfcoikfhpabmaaDoor.V.k31.M w base ok) 4 (l.map vTok) cs → cs = toksCells l
  | [], cs, h => by
    have := h.1
    simp at this
    exact this
  | t :: l, cs, h => by
    have h0 := Go.Proofs.YtkfcoikfhpabmaaDoor.V.k31_openM (h.2 0 (vTok t) rfl)
    have hl := h.1
    rw [List.length_map, List.length_cons] at hl
    have ih := reps_own l (cs.drop 4) ⟨by rw [List.length_drop, List.length_map, hl]; omega, fun j p hj => by
      have := h.2 (j + 1) p (by simpa using hj)
      rw [List.drop_drop, show 4 + j * 4 = (j + 1) * 4 by omega]
      exact this⟩
    have e : cs = cs.take 4 ++ cs.drop 4 := (List.take_append_drop 4 cs).symm
    rw [Nat.zero_mul, List.drop_zero] at h0
    rw [e, ih, h0]
    rfl
theorem own_of_doc {w : World} {base : Nat} {ok : Nat → Prop} {v : Value} {l : List Tok} (h : Kd.R Go.Proofs.YtkfcoikfhpabmaaDoor.V.k31 31 w base ok v (l.map vTok)) : w.ownsRow base 31 4 v l.length (toksCells l) := by
  obtain ⟨_, inner, ho, hr⟩ := h
  rw [reps_own l inner hr, List.length_map] at ho
  exact ho

theorem toks_get : ∀ (L : List Tok) (j c : Nat) (h : j < L.length), c < 4 → (toksCells L)[j * 4 + c]? = (tokCells L[j])[c]?
  | [], j, c, h, hc => by simp at h
  | t :: L, 0, c, h, hc => by
    show (tokCells t ++ toksCells L)[0 * 4 + c]? = (tokCells t)[c]?
    rw [Nat.zero_mul, Nat.zero_add, List.getElem?_append_left (by show c < 4; exact hc)]
  | t :: L, j + 1, c, h, hc => by
    show (tokCells t ++ toksCells L)[(j + 1) * 4 + c]? = (tokCells (t :: L)[j + 1])[c]?
    rw [List.getElem?_append_right (by show 4 ≤ _; omega), show (j + 1) * 4 + c - (tokCells t).length = j * 4 + c by show (j + 1) * 4 + c - 4 = _; omega]
    exact toks_get L j c (by simpa using h) hc

/-! ### What the law wants -/
/-- the tokens, and the fault's -/
def wantZ (s : ByteArray) : List Tok := (itemsZ s).map (·.1)
def errZ (s : ByteArray) : Int := (aheadZ s (s.size + 1) 0 []).2.1
def placeZ (s : ByteArray) : Int := (aheadZ s (s.size + 1) 0 []).2.2
theorem want_ok (s : ByteArray) (h : errZ s = 0) : wantZ s = (aheadZ s (s.size + 1) 0 []).1 := by
  unfold wantZ itemsZ
  rw [if_pos (show (aheadZ s (s.size + 1) 0 []).2.1 = 0 from h), List.append_nil, List.map_map]
  simp [Function.comp_def]
theorem want_bad (s : ByteArray) (h : errZ s ≠ 0) : wantZ s = (aheadZ s (s.size + 1) 0 []).1 ++ [⟨0, placeZ s, 0, ⟨#[]⟩⟩] := by
  unfold wantZ itemsZ
  rw [if_neg (show ¬ (aheadZ s (s.size + 1) 0 []).2.1 = 0 from h), List.map_append, List.map_map]
  simp [Function.comp_def, placeZ]
theorem want_len (s : ByteArray) : (wantZ s).length ≤ s.size + 1 := by
  unfold wantZ
  rw [List.length_map]
  exact items_len s
/-- the item that comes next -/
theorem item_at {s : ByteArray} {pre : List (Tok × Int)} {x : Tok × Int} (h : pre ++ [x] <+: itemsZ s) :
    pre.length < (wantZ s).length ∧ (∀ (hl : pre.length < (wantZ s).length), (wantZ s)[pre.length] = x.1) ∧ ((x.2 = 0 ∧ (pre.length + 1 = (wantZ s).length → errZ s = 0)) ∨ (x.2 ≠ 0 ∧ pre.length + 1 = (wantZ s).length ∧ errZ s = x.2)) := by
  obtain ⟨post, hp⟩ := h
  have hw : wantZ s = (pre ++ [x]).map (·.1) ++ post.map (·.1) := by unfold wantZ; rw [← hp, List.map_append]
  have hlen : (wantZ s).length = pre.length + 1 + post.length := by rw [hw]; simp; omega
  refine ⟨by omega, fun hl => ?_, ?_⟩
  · simp only [hw]
    rw [List.getElem_append_left (by simp)]
    simp
  · have hi : itemsZ s = (aheadZ s (s.size + 1) 0 []).1.map (fun t => (t, (0 : Int))) ++ (if errZ s = 0 then [] else [(⟨0, placeZ s, 0, ⟨#[]⟩⟩, errZ s)]) := rfl
    by_cases e : errZ s = 0
    · rw [if_pos e, List.append_nil] at hi
      have hm : x ∈ itemsZ s := by rw [← hp]; simp
      rw [hi] at hm
      obtain ⟨t, _, rfl⟩ := List.mem_map.1 hm
      exact Or.inl ⟨rfl, fun _ => e⟩
    · rw [if_neg e] at hi
      rcases List.eq_nil_or_concat post with rfl | ⟨q, y, rfl⟩
      · rw [List.append_nil, hi] at hp
        have hp' := List.append_inj' hp rfl
        have hx : x = (⟨0, placeZ s, 0, ⟨#[]⟩⟩, errZ s) := by simpa using hp'.2
        subst hx
        exact Or.inr ⟨e, by rw [hlen]; simp, rfl⟩
      · rw [List.concat_eq_append, hi, ← List.append_assoc] at hp
        have hp' := List.append_inj' hp rfl
        have hm : x ∈ (aheadZ s (s.size + 1) 0 []).1.map (fun t => (t, (0 : Int))) := by rw [← hp'.1]; simp
        obtain ⟨t, _, rfl⟩ := List.mem_map.1 hm
        exact Or.inl ⟨rfl, fun h => by rw [hlen] at h; simp at h⟩

/-! ### The law's own cells -/
structure SqS (n p5 p6 : Nat) (w : World) (most e : Int) (vw : Value) (L : List Tok) (W : World) : Prop where
  bel : Below n w W
  bm : W.heap[n]? = some (.cells #[.int .i64 most] 3 (0, 0))
  br : W.heap[n + 1]? = some (.cells #[.bool false] 4 (0, 0))
  bw : W.heap[p5]? = some (.cells #[vw] 22 (0, 0))
  be : W.heap[p6]? = some (.cells #[.int .i64 e] 23 (0, 0))
  row : W.ownsRow n 31 4 vw L.length (toksCells L)
theorem not_ownK' {t : TypeId} (h : t = 4 ∨ t = 22 ∨ t = 23 ∨ t = 3 ∨ t = 31) : ¬ ownK t := by
  unfold ownK
  rcases h with rfl | rfl | rfl | rfl | rfl <;> decide
theorem kept_turn {n B : Nat} {w₀ A C : World} (h : Rg.Kept n ownK w₀.heap.size w₀ A) (ht : Rg.TurnX B ownK A C) (hB : w₀.heap.size ≤ B) (hn : n ≤ w₀.heap.size) : Rg.Kept n ownK w₀.heap.size w₀ C :=
  ⟨ht.below h.1 (by omega) hn, fun k cs t fr hk hh => ht.same k _ (h.2.1 k cs t fr hk hh) (Or.inl (by have := (Array.getElem?_eq_some_iff.1 hh).1; omega)), fun k h1 h2 => by omega⟩
theorem SqS.turn {n p5 p6 : Nat} {w : World} {most e : Int} {vw : Value} {L : List Tok} {A C : World} {B : Nat} (h : SqS n p5 p6 w most e vw L A) (ht : Rg.TurnX B ownK A C) (hB : n ≤ B) (hn : n ≤ w.heap.size) : SqS n p5 p6 w most e vw L C where
  bel := ht.below h.bel hB hn
  bm := keepX ht h.bm (not_ownK' (by simp))
  br := keepX ht h.br (not_ownK' (by simp))
  bw := keepX ht h.bw (not_ownK' (by simp))
  be := keepX ht h.be (not_ownK' (by simp))
  row := keepRow ht h.row
theorem keepsOthers_of_below {W W' : World} (h : Below W.heap.size W W') : KeepsOthers W W' :=
  ⟨h.size, fun k o hk _ => (h.block k (Array.getElem?_eq_some_iff.1 hk).1).trans hk⟩
theorem results_c1 {fn : Func} {p : Tmp} {tp : TypeId} {P : Program} (h : fn.results = #[.cell p tp]) (tmps : Array Value) (w : World) (a : Addr) (va : Value)
    (hp : tmps.getD p undef = .pointer (some a)) (la : (loadVar tp a).run P w = .ok va w) : (results fn tmps).run P w = .ok va w := by
  have hp' : tmps[p]?.getD undef = .pointer (some a) := by simpa using hp
  simp [results, h, hp', asAddr, la]
/-- the collected calls of loops that are over, taken one by one -/
theorem leaves_all {F : Fence} {n : Nat} {P : Program} {fn : Func} {tmps : Array Value} {R : Ending → World → Prop} {m : Nat} (Q : World → Prop)
    (hstep : ∀ W D, Q W → m ≤ D → W.heap[D]? = some (.deferred (some [])) → Q (W.putObj D (.deferred none))) (hfin : ∀ W, Q W → LeavesInM F n P fn tmps R [] .returning W) :
    ∀ (ds : List Nat) (W : World), Q W → ds.Nodup → (∀ D ∈ ds, m ≤ D ∧ W.heap[D]? = some (.deferred (some []))) → LeavesInM F n P fn tmps R (ds.map fun D => { target := .collected D, args := #[] }) .returning W
  | [], W, hq, _, _ => hfin W hq
  | D :: ds, W, hq, hn, hd => by
    have h0 := hd D List.mem_cons_self
    have hn' := List.nodup_cons.1 hn
    refine ⟨by simp, .inl ⟨_, _, rfl, run_takeDeferred h0.2, ?_⟩⟩
    refine leaves_all Q hstep hfin ds _ (hstep W D hq h0.1 h0.2) hn'.2 (fun D' hD' => ?_)
    have h1 := hd D' (List.mem_cons_of_mem _ hD')
    exact ⟨h1.1, (World.putObj_heap_other (by rintro rfl; exact hn'.1 hD')).trans h1.2⟩

/-- what a round of the law's inner loop has between two items -/
structure InS (n p5 p6 : Nat) (w : World) (most e : Int) (vw : Value) (L : List Tok) (Wl : World) (q9 q10 r : Nat) (ds : List Nat) (j : Nat) (W : World) : Prop where
  st : SqS n p5 p6 w most e vw L W
  kp : Rg.Kept n ownK Wl.heap.size Wl W
  b9 : W.heap[q9]? = some (.cells #[.int .i64 (r : Int)] 3 (0, 0))
  b10 : W.heap[q10]? = some (.cells #[.int .i64 (j : Int)] 3 (0, 0))
  dd : ∀ D ∈ ds, W.heap[D]? = some (.deferred (some []))
theorem InS.turn {n p5 p6 : Nat} {w : World} {most e : Int} {vw : Value} {L : List Tok} {Wl : World} {q9 q10 r : Nat} {ds : List Nat} {j : Nat} {A C : World} {B : Nat} (h : InS n p5 p6 w most e vw L Wl q9 q10 r ds j A) (ht : Rg.TurnX B ownK A C) (hB : Wl.heap.size ≤ B) (hn : n ≤ w.heap.size) (hl : n ≤ Wl.heap.size) (hd : ∀ D ∈ ds, D < B) : InS n p5 p6 w most e vw L Wl q9 q10 r ds j C where
  st := h.st.turn ht (by omega) hn
  kp := kept_turn h.kp ht hB hl
  b9 := keepX ht h.b9 (not_ownK' (by simp))
  b10 := keepX ht h.b10 (not_ownK' (by simp))
  dd := fun D hD => ht.same D _ (h.dd D hD) (Or.inl (hd D hD))

/-- the place in the list goes up by one -/
theorem InS.bump {n p5 p6 : Nat} {w : World} {most e : Int} {vw : Value} {L : List Tok} {Wl : World} {q9 q10 r : Nat} {ds : List Nat} {j : Nat} {A : World} (h : InS n p5 p6 w most e vw L Wl q9 q10 r ds j A) (h1 : n + 1 < q10) (h2 : p5 < q10) (h3 : p6 < q10) (h4 : q9 < q10) :
    InS n p5 p6 w most e vw L Wl q9 q10 r ds (j + 1) (A.setCell ⟨q10, 0, none⟩ (.int .i64 ((j : Int) + 1))) where
  st := ⟨h.st.bel.setCell (p := ⟨q10, 0, none⟩) (show n ≤ q10 by omega) _, blk_far (p := ⟨q10, 0, none⟩) h.st.bm (show n ≠ q10 by omega) _, blk_far (p := ⟨q10, 0, none⟩) h.st.br (show n + 1 ≠ q10 by omega) _, blk_far (p := ⟨q10, 0, none⟩) h.st.bw (show p5 ≠ q10 by omega) _, blk_far (p := ⟨q10, 0, none⟩) h.st.be (show p6 ≠ q10 by omega) _, own_setCell h.st.row (p := ⟨q10, 0, none⟩) (own_ne h.st.row h.b10 (by decide)) _⟩
  kp := ⟨h.kp.1.setCell (p := ⟨q10, 0, none⟩) (show n ≤ q10 by omega) _, fun k cs t fr hk hh => (Below.heap_setCell A ⟨q10, 0, none⟩ _ k (by
    intro e
    have e' : k = q10 := e
    subst e'
    have := h.kp.2.1 k cs t fr hk hh
    rw [h.b10] at this
    injection this with this
    injection this with _ this
    exact not_ownK' (t := 3) (by simp) (this ▸ hk))).trans (h.kp.2.1 k cs t fr hk hh), fun k a b => by omega⟩
  b9 := blk_far (p := ⟨q10, 0, none⟩) h.b9 (show q9 ≠ q10 by omega) _
  b10 := by
    have := blk_put h.b10 0 (.int .i64 ((j : Int) + 1)) rfl
    rw [show ((j + 1 : Nat) : Int) = (j : Int) + 1 by omega]
    exact this
  dd := fun D hD => (Below.heap_setCell A ⟨q10, 0, none⟩ _ D (by
    intro e
    have e' : D = q10 := e
    subst e'
    have := h.dd D hD
    rw [h.b10] at this
    cases this)).trans (h.dd D hD)

set_option maxHeartbeats 16000000 in
set_option maxRecDepth 100000 in
theorem seq_law (s : ByteArray) (most : Int) (hs : s.size ≤ 1048576) (w : World) (hT : Tabs w) :
    Calls Tryd.prog 4 #[.string s, .int .i64 most] w fun e w' => e = .returned (.bool true) ∧ Below w.heap.size w w' := by
  have HT : Hid (∀ W, Below w.heap.size w W → Tabs W) := fun W hb => hT.below hb
  clear hT
  obtain ⟨i0, hi, hz0, hz1, hz2⟩ := info_parts info31
  have HI := Lib.hid hi
  have HZ0 := Lib.hid hz0
  have HZ1 := Lib.hid hz1
  have HZ2 := Lib.hid hz2
  clear hi hz0 hz1 hz2
  have hdoc : ∀ W, Calls Tryd.prog 12 #[.string s] W fun e w' => ∃ v0_ : Value, e = .returned (.tuple #[v0_, .int .i64 (errZ s), .int .i64 (placeZ s)]) ∧ Kd.R Go.Proofs.YtkfcoikfhpabmaaDoor.V.k31 31 w' W.heap.size (fun _ => True) v0_ ((aheadZ s (s.size + 1) 0 []).1.map vTok) ∧ Below W.heap.size W w' :=
    fun W => Go.Proofs.YtkfcoikfhpabmaaDoor.V.hallmarkref04_Ahead.calls (4 * s.size + 600) s _ _ _ W (refAhead_eq s hs _ (Nat.le_refl _))
  have hal := ahead_len s (s.size + 1) 0 [] (Nat.zero_le _)
  rw [List.length_nil] at hal
  have HWK := Lib.hid (want_ok s)
  have HWB := Lib.hid (want_bad s)
  have HWL := want_len s
  obtain ⟨D, hD⟩ : ∃ D, (aheadZ s (s.size + 1) 0 []).1 = D := ⟨_, rfl⟩
  rw [hD] at hdoc hal HWK HWB
  clear hD
  obtain ⟨er, her⟩ : ∃ x, errZ s = x := ⟨_, rfl⟩
  obtain ⟨pl, hpl⟩ : ∃ x, placeZ s = x := ⟨_, rfl⟩
  rw [her] at hdoc HWK HWB
  rw [hpl] at hdoc HWB
  have HER := Lib.hid her
  clear her hpl
  refine (callsIn_wide (n := 9)).1 ?_
  refine callsIn_of_wp_marks Tryd.func4 rfl trivial ?_ rfl
  refine wpIn_wide.2 ?_
  simp only [Tryd.ntmps4, List.size_toArray, List.length_cons, List.length_nil, Nat.reduceAdd, Nat.reduceSub, Array.replicate_succ, Array.replicate_zero, List.push_toArray, List.append_toArray, List.nil_append, List.cons_append]
  go_upto_if 20 with (go_at_call 12; go_must ((with_reducible refine (hdoc _).mono ?_); rintro e1 w1 ⟨v, rfl, hR, hb1⟩; have hR2 := own_of_doc hR; obtain ⟨Av, cv, rfl⟩ := own_slice hR2; have HR := Lib.hid hR2; clear hR2; have HB1 := Lib.hid hb1; clear hR hb1))
  have hz1 : w.heap.size + 2 ≤ w1.heap.size := by have := HB1.out.size; simp at this; omega
  have k0 : w1.heap[w.heap.size]? = some (.cells #[.int .i64 most] 3 (0, 0)) := (HB1.out.block _ (by simp; omega)).trans (blk_alloc (heap_alloc_new w _) _)
  have k1 : w1.heap[w.heap.size + 1]? = some (.cells #[.bool false] 4 (0, 0)) := by
    have g := heap_alloc_new (w.alloc (.cells #[.int .i64 most] 3)) (.cells #[.bool false] 4)
    simp only [World.size_alloc] at g
    exact (HB1.out.block _ (by simp)).trans g
  have hbel1 : Below w.heap.size w w1 := (((Below.refl _ w).alloc (Nat.le_refl _) _).alloc (by simp) _).trans (HB1.out.mono (by simp; omega))
  have hrow1 : w1.ownsRow w.heap.size 31 4 (.slice Av D.length cv) D.length (toksCells D) := own_weaken HR.out (by simp; omega)
  obtain ⟨n, hn⟩ : ∃ n, w.heap.size = n := ⟨_, rfl⟩
  have S2 : SqS w.heap.size w1.heap.size (w1.heap.size + 1) w most er (.slice Av D.length cv) D ((w1.alloc (.cells #[.slice Av D.length cv] 22)).alloc (.cells #[.int .i64 er] 23)) := by
    have g0 := heap_alloc_new w1 (.cells #[.slice Av D.length cv] 22)
    have g1 := heap_alloc_new (w1.alloc (.cells #[.slice Av D.length cv] 22)) (.cells #[.int .i64 er] 23)
    simp only [World.size_alloc] at g1
    exact ⟨(hbel1.alloc (by omega) _).alloc (by simp; omega) _, blk_alloc (blk_alloc k0 _) _, blk_alloc (blk_alloc k1 _) _, blk_alloc g0 _, g1, (hrow1.alloc _).alloc _⟩
  obtain ⟨p5, hp5⟩ : ∃ p5, w1.heap.size = p5 := ⟨_, rfl⟩
  obtain ⟨W2, hW2⟩ : ∃ W2, (w1.alloc (.cells #[.slice Av D.length cv] 22)).alloc (.cells #[.int .i64 er] 23) = W2 := ⟨_, rfl⟩
  have hs2 : p5 + 2 ≤ W2.heap.size := by rw [← hW2]; simp; omega
  rw [hn, hp5] at S2
  rw [hn, hp5, hW2]
  rw [hW2] at S2
  have HS2 := Lib.hid S2
  have HT2 : Hid (∀ W, Below n w W → Tabs W) := by rw [← hn]; exact HT.out
  have hnw : n ≤ w.heap.size := by omega
  have hn5 : n + 2 ≤ p5 := by omega
  have HN := Lib.hid hn
  clear hW2 hp5 hz1 k0 k1 hbel1 hrow1 S2 HT HR HB1 hdoc hn
  go_cut [] from 20 to 25 (fun wx => ∃ vw, Hid (SqS n p5 (p5 + 1) w most er vw (wantZ s) wx) ∧ p5 + 2 ≤ wx.heap.size)
  case first =>
    have c6 : W2.cell? ⟨p5 + 1, 0, none⟩ = some (.int .i64 er) := (blk_cell HS2.out.be 0).trans rfl
    have c5 : W2.cell? ⟨p5, 0, none⟩ = some (.slice Av D.length cv) := (blk_cell HS2.out.bw 0).trans rfl
    by_cases her0 : er = 0
    · have hw0 := Lib.hid (HWK.out her0)
      subst her0
      go_wp2
      go_meet
      exact ⟨_, by rw [hw0.out]; exact HS2.out, by omega⟩
    · have hw0 := Lib.hid (HWB.out her0)
      have hne : (er != 0) = true := bne_iff_ne.2 her0
      have HNE5 := Lib.hid (own_ne HS2.out.row HS2.out.bw (by decide))
      have HNE6 := Lib.hid (own_ne HS2.out.row HS2.out.be (by decide))
      have HNEm := Lib.hid (own_ne HS2.out.row HS2.out.bm (by decide))
      have HNEr := Lib.hid (own_ne HS2.out.row HS2.out.br (by decide))
      have hbs := HS2.out.bel.size
      clear her0
      go_wp2_with (at_builtin; go_must (refine wpList_append_own _ rfl (.tmp 21) (.tmp 24) 22 rfl n 31 i0 _ 4 40 Tryd.underlying22 HI.out HZ0.out HZ1.out HZ2.out rfl (by decide) (.slice Av D.length cv) D.length (toksCells D) rfl ?c0 _ 1 1 [.int .i64 0, .int .i64 pl, .int .i64 0, .string ⟨#[]⟩] rfl rfl ?c1 ?c2 ?c3 ?c4 ?c5 ?_; (case c0 => exact HS2.out.row.alloc _); (case c1 => exact World.news_of_block (cs := #[.int .i64 0, .int .i64 pl, .int .i64 0, .string ⟨#[]⟩]) (t := 31) (fr := (0, 0)) (heap_alloc_new W2 _)); (case c2 => simp [Value.oneCell']); (case c3 => unfold maxLen; omega); (case c4 => omega); (case c5 => simp; omega); intro v8 w8 hown8 hg8 _; obtain ⟨A8, cp8, rfl⟩ := own_slice hown8; have hb5 := Lib.hid (blk_grown (blk_alloc HS2.out.bw (.cells #[.int .i64 0, .int .i64 pl, .int .i64 0, .string ⟨#[]⟩] 31)) hg8 HNE5.out); have c58 : w8.cell? ⟨p5, 0, none⟩ = some (.slice Av D.length cv) := (blk_cell hb5.out 0).trans rfl; have f58 := blk_frozen hb5.out 0; have HO8 := Lib.hid hown8; have HG8 := Lib.hid hg8; clear hown8 hg8))
      have hsz8 := HG8.out.size
      simp only [World.size_alloc] at hsz8
      go_meet
      refine ⟨.slice A8 (D.length + 1) cp8, ⟨?_, ?_, ?_, blk_put hb5.out 0 _ rfl, ?_, ?_⟩, ?_⟩
      · exact ((HS2.out.bel.alloc (by omega) _).grown HG8.out (by simp; omega) (fun k' hk' => own_base HS2.out.row k' hk')).setCell (p := ⟨p5, 0, none⟩) (show n ≤ p5 by omega) _
      · exact blk_far (p := ⟨p5, 0, none⟩) (blk_grown (blk_alloc HS2.out.bm _) HG8.out HNEm.out) (show n ≠ p5 by omega) _
      · exact blk_far (p := ⟨p5, 0, none⟩) (blk_grown (blk_alloc HS2.out.br _) HG8.out HNEr.out) (show n + 1 ≠ p5 by omega) _
      · exact blk_far (p := ⟨p5, 0, none⟩) (blk_grown (blk_alloc HS2.out.be _) HG8.out HNE6.out) (show p5 + 1 ≠ p5 by omega) _
      · rw [hw0.out, toksCells_snoc, List.length_append, List.length_singleton]
        exact own_setCell HO8.out (own_ne HO8.out hb5.out (by decide)) _
      · have := ((Below.refl 0 w8).setCell (p := ⟨p5, 0, none⟩) (Nat.zero_le _) (.slice A8 (D.length + 1) cp8)).size
        omega
  case rest =>
    obtain ⟨vw, HS3, hp3⟩ := hcut
    clear HS2 hs2 HWK HWB hal HI HZ0 HZ1 HZ2
    have hnf : ∀ (b : Nat) (wq : World), (binOp .eql 33 (.func (.func 18) #[] #[.pointer (some ⟨b, 0, none⟩)]) .nilFunc).run Tryd.prog wq = .ok (.bool false) wq := fun b wq => by kernel_rfl
    go_wp2_with (go_at_call 13; (with_reducible refine (seq_calls _ _).mono ?_); rintro e2 w2 ⟨rfl, rfl⟩)
    obtain ⟨A5, c5v, rfl⟩ := own_slice HS3.out.row
    obtain ⟨Wl, hWl⟩ : ∃ Wl, (wc.alloc (.cells #[.string s] 9)).alloc (.cells #[.int .i64 0] 3) = Wl := ⟨_, rfl⟩
    have hsl : Wl.heap.size = wc.heap.size + 2 := by rw [← hWl]; simp
    have htext : TextAt Wl wc.heap.size s := by rw [← hWl]; exact blk_alloc (heap_alloc_new wc _) _
    have h9 : Wl.heap[wc.heap.size + 1]? = some (.cells #[.int .i64 ((0 : Nat) : Int)] 3 (0, 0)) := by
      rw [← hWl]
      have g := heap_alloc_new (wc.alloc (.cells #[.string s] 9)) (.cells #[.int .i64 0] 3)
      simp only [World.size_alloc] at g
      exact g
    have SL : SqS n p5 (p5 + 1) w most er (.slice A5 (wantZ s).length c5v) (wantZ s) Wl := by
      rw [← hWl]
      exact (HS3.out.turn (Rg.turnX_alloc _ _) (Nat.le_refl _) hnw).turn (Rg.turnX_alloc _ _) (Nat.le_refl _) hnw
    rw [hWl]
    have hnl : n ≤ Wl.heap.size := by omega
    have hseq := seq_in s (by omega) wc.heap.size n Wl htext (fun W h => HT2.out W (SL.bel.trans h))
    have HSEQ := Lib.hid hseq
    have HSL := Lib.hid SL
    have H9L := Lib.hid h9
    obtain ⟨bs, hbs⟩ : ∃ bs, wc.heap.size = bs := ⟨_, rfl⟩
    rw [hbs] at H9L HSEQ hp3 hsl ⊢
    clear hWl htext h9 SL hseq HS3 hbs
    refine wp_loop_ghost_k (fun g a wx => ∃ (r : Nat) (ds : List Nat) (q9 : Nat) (u1 u2 u7 u10 u11 u12 u13 u14 u15 u16 u17 u18 u19 u20 u21 u22 u23 u24 u25 u26 u27 u28 u29 u30 u31 u32 u33 u34 u35 u36 u37 u38 u39 u40 u41 u42 u43 u44 u45 u46 u47 u48 u49 u50 u51 u52 u53 u54 u55 u56 u57 u58 u59 u60 u61 u62 u63 u64 u65 u66 u67 u68 u69 u70 u71 u72 u73 u74 u75 u76 u77 u78 u79 u80 u81 u82 u83 u84 u85 u86 u87 u88 u89 u90 u91 u92 u93 u94 u95 : Value), r + g = 2 ∧ a = { tmps := #[.string s, u1, u2, .pointer (some ⟨n, 0, none⟩), .pointer (some ⟨n + 1, 0, none⟩), .pointer (some ⟨p5, 0, none⟩), .pointer (some ⟨p5 + 1, 0, none⟩), u7, .func (.func 18) #[] #[.pointer (some ⟨bs, 0, none⟩)], .pointer (some ⟨q9, 0, none⟩), u10, u11, u12, u13, u14, u15, u16, u17, u18, u19, u20, u21, u22, u23, u24, u25, u26, u27, u28, u29, u30, u31, u32, u33, u34, u35, u36, u37, u38, u39, u40, u41, u42, u43, u44, u45, u46, u47, u48, u49, u50, u51, u52, u53, u54, u55, u56, u57, u58, u59, u60, u61, u62, u63, u64, u65, u66, u67, u68, u69, u70, u71, u72, u73, u74, u75, u76, u77, u78, u79, u80, u81, u82, u83, u84, u85, u86, u87, u88, u89, u90, u91, u92, u93, u94, u95], defers := ds.map fun D => { target := .collected D, args := #[] } } ∧ Hid (SqS n p5 (p5 + 1) w most er (.slice A5 (wantZ s).length c5v) (wantZ s) wx) ∧ Hid (Rg.Kept n ownK Wl.heap.size Wl wx) ∧ Hid (wx.heap[q9]? = some (.cells #[.int .i64 (r : Int)] 3 (0, 0))) ∧ p5 + 2 ≤ q9 ∧ ds.Nodup ∧ ∀ D ∈ ds, n ≤ D ∧ wx.heap[D]? = some (.deferred (some []))) 2 ?_ ?_
    · exact ⟨0, [], bs + 1, _, _, _, _, _, _, _, _, _, _, _, _, _, _, _, _, _, _, _, _, _, _, _, _, _, _, _, _, _, _, _, _, _, _, _, _, _, _, _, _, _, _, _, _, _, _, _, _, _, _, _, _, _, _, _, _, _, _, _, _, _, _, _, _, _, _, _, _, _, _, _, _, _, _, _, _, _, _, _, _, _, _, _, _, _, _, _, _, _, rfl, rfl, HSL.out, ⟨Below.refl _ _, fun _ _ _ _ _ h => h, fun _ _ _ => rfl⟩, H9L.out, by omega, List.nodup_nil, by simp⟩
    intro g a wx hrel J K hJ hK
    obtain ⟨r, ds, q9, hrel⟩ := hrel
    obtain ⟨u1, u2, u7, u10, u11, u12, u13, u14, hrel⟩ := hrel
    obtain ⟨u15, u16, u17, u18, u19, u20, u21, u22, hrel⟩ := hrel
    obtain ⟨u23, u24, u25, u26, u27, u28, u29, u30, hrel⟩ := hrel
    obtain ⟨u31, u32, u33, u34, u35, u36, u37, u38, hrel⟩ := hrel
    obtain ⟨u39, u40, u41, u42, u43, u44, u45, u46, hrel⟩ := hrel
    obtain ⟨u47, u48, u49, u50, u51, u52, u53, u54, hrel⟩ := hrel
    obtain ⟨u55, u56, u57, u58, u59, u60, u61, u62, hrel⟩ := hrel
    obtain ⟨u63, u64, u65, u66, u67, u68, u69, u70, hrel⟩ := hrel
    obtain ⟨u71, u72, u73, u74, u75, u76, u77, u78, hrel⟩ := hrel
    obtain ⟨u79, u80, u81, u82, u83, u84, u85, u86, hrel⟩ := hrel
    obtain ⟨u87, u88, u89, u90, u91, u92, u93, u94, hrel⟩ := hrel
    obtain ⟨u95, hrel⟩ := hrel
    obtain ⟨hrg, ha, HS, HKp, H9, hp9, hnd, hds⟩ := hrel
    subst ha
    have HJ := Lib.hid hJ
    have HK := Lib.hid hK
    have HDS := Lib.hid hds
    have HND := Lib.hid hnd
    obtain ⟨DSL, hDSL⟩ : ∃ x : List Deferred, (ds.map fun D => { target := .collected D, args := #[] }) = x := ⟨_, rfl⟩
    rw [hDSL]
    have HDSL := Lib.hid hDSL
    have HRG := Lib.hid hrg
    clear hJ hK hds hnd HSL H9L hDSL hrg
    have c9 : wx.cell? ⟨q9, 0, none⟩ = some (.int .i64 (r : Int)) := (blk_cell H9.out 0).trans rfl
    have hlq : q9 < wx.heap.size := blk_lt H9.out
    by_cases hr : r < 2
    · have hr2 : (r : Int) < 2 := by omega
      have hr0 : (0 : Int) ≤ (r : Int) := by omega
      go_wp2
      obtain ⟨W0, hW0⟩ : ∃ W0, wx.alloc (.cells #[.int .i64 0] 3) = W0 := ⟨_, rfl⟩
      obtain ⟨q10, hq10⟩ : ∃ q10, wx.heap.size = q10 := ⟨_, rfl⟩
      have hs0 : W0.heap.size = q10 + 1 := by rw [← hW0, ← hq10]; simp
      have hk0 : Rg.Kept n ownK Wl.heap.size Wl W0 := by
        rw [← hW0]
        exact kept_turn HKp.out (Rg.turnX_alloc _ _) (Nat.le_refl _) hnl
      have hi0 : InS n p5 (p5 + 1) w most er (.slice A5 (wantZ s).length c5v) (wantZ s) Wl q9 q10 r ds 0 W0 := by
        rw [← hW0, ← hq10]
        exact ⟨HS.out.turn (Rg.turnX_alloc _ _) (Nat.le_refl _) hnw, kept_turn HKp.out (Rg.turnX_alloc _ _) (Nat.le_refl _) hnl, blk_alloc H9.out _, heap_alloc_new wx _, fun D hD => (Below.heap_alloc wx _ D (Array.getElem?_eq_some_iff.1 (HDS.out D hD).2).1).trans (HDS.out D hD).2⟩
      have hdlt : ∀ D ∈ ds, D < W0.heap.size := fun D hD => by have := (Array.getElem?_eq_some_iff.1 (HDS.out D hD).2).1; omega
      have hl0 : Wl.heap.size ≤ W0.heap.size := hk0.1.size
      rw [hW0, hq10]
      have HDLT := Lib.hid hdlt
      rw [hq10] at hlq
      clear hW0 hq10 c9 hdlt
      refine (wpIn_wide (n := 9)).1 ?_
      refine Rg.range_law (gf := 18) (lb := #[.pointer (some ⟨bs, 0, none⟩)]) rfl (enters_of Tryd.func18 (by kernel_rfl) rfl) HSEQ.out hk0 hnl (fun _ => rfl)
        (fun pre W => InS n p5 (p5 + 1) w most er (.slice A5 (wantZ s).length c5v) (wantZ s) Wl q9 q10 r ds pre.length W)
        (fun c pre W => c = .exit 2 ∧ r = 0 ∧ ((pre.length : Nat) : Int) = most ∧ InS n p5 (p5 + 1) w most er (.slice A5 (wantZ s).length c5v) (wantZ s) Wl q9 q10 r ds pre.length W)
        (fun pre A C h ht => h.turn ht hl0 hnw hnl HDLT.out) (fun c pre A C h ht => ⟨h.1, h.2.1, h.2.2.1, h.2.2.2.turn ht hl0 hnw hnl HDLT.out⟩) hi0
        (fun x a' W => ∃ Bx, W.heap[Bx]? = some (.cells #[.int .i64 x.1.f0, .int .i64 x.1.f1, .int .i64 x.1.f2, .string x.1.f3] 31 (0, 0)) ∧ a' = { tmps := #[.string s, u1, u2, .pointer (some ⟨n, 0, none⟩), .pointer (some ⟨n + 1, 0, none⟩), .pointer (some ⟨p5, 0, none⟩), .pointer (some ⟨p5 + 1, 0, none⟩), u7, .func (.func 18) #[] #[.pointer (some ⟨bs, 0, none⟩)], .pointer (some ⟨q9, 0, none⟩), .pointer (some ⟨q10, 0, none⟩), .pointer (some ⟨Bx, 0, none⟩), .int .i64 x.2, u13, u14, u15, u16, u17, u18, u19, u20, u21, u22, u23, u24, u25, u26, u27, u28, u29, .int .i64 (r : Int), .bool true, u32, u33, .func (.func 18) #[] #[.pointer (some ⟨bs, 0, none⟩)], .agg #[.int .i64 x.1.f0, .int .i64 x.1.f1, .int .i64 x.1.f2, .string x.1.f3], .int .i64 x.2, u37, u38, u39, u40, u41, u42, u43, u44, u45, u46, u47, u48, u49, u50, u51, u52, u53, u54, u55, u56, u57, u58, u59, u60, u61, u62, u63, u64, u65, u66, u67, u68, u69, u70, u71, u72, u73, u74, u75, u76, u77, u78, u79, u80, u81, u82, u83, u84, u85, u86, u87, u88, u89, u90, u91, u92, u93, u94, u95], defers := [] })
        (fun x a' A C ⟨Bx, h1, h2⟩ ht => ⟨Bx, keepX ht h1 (not_ownK' (by simp)), h2⟩) ?assign ?body ?done ?stop
      case assign =>
        intro l pre x W KK hI hsW hK
        rw [show encT x = #[.agg #[.int .i64 x.1.f0, .int .i64 x.1.f1, .int .i64 x.1.f2, .string x.1.f3], .int .i64 x.2] from rfl]
        have HKK := Lib.hid hK
        clear hK
        gi_wp2
        exact HKK.out _ _ (KeepsOthers.alloc _ _) (Rg.kept_alloc (Nat.le_trans hnw hI.st.bel.size) _) (hI.turn (Rg.turnX_alloc _ _) hl0 hnw hnl HDLT.out) ⟨W.heap.size, heap_alloc_new W _, rfl⟩
      case body =>
        rintro l pre ⟨⟨f0, f1, f2, f3⟩, e2⟩ a' W1 W hI1 ht1 hsW hI ⟨Bx, hB, rfl⟩ hpre
        obtain ⟨hj, hjw, hjx⟩ := item_at hpre
        have hjw := hjw hj
        rw [HER.out] at hjx
        simp only at hjw hjx hB
        have hrow := hI.st.row
        obtain ⟨g5, rfl⟩ : ∃ g5, A5 = some ⟨g5, 0, none⟩ := by
          rcases hrow.2 with ⟨h, h2⟩ | ⟨g5, cap, cur, h, _⟩
          · omega
          · injection h with h _
            exact ⟨g5, h⟩
        obtain ⟨len, hlen⟩ : ∃ x, (wantZ s).length = x := ⟨_, rfl⟩
        obtain ⟨j, hjj⟩ : ∃ x, pre.length = x := ⟨_, rfl⟩
        have y0 := (hrow.cellAt (j * 4) (by omega)).trans ((toks_get (wantZ s) j 0 (by omega) (by omega)).trans (by simp only [← hjj]; rw [hjw]; rfl : _ = some (Value.int .i64 f0)))
        have y1 := (hrow.cellAt (j * 4 + 1) (by omega)).trans ((toks_get (wantZ s) j 1 (by omega) (by omega)).trans (by simp only [← hjj]; rw [hjw]; rfl : _ = some (Value.int .i64 f1)))
        have y2 := (hrow.cellAt (j * 4 + 2) (by omega)).trans ((toks_get (wantZ s) j 2 (by omega) (by omega)).trans (by simp only [← hjj]; rw [hjw]; rfl : _ = some (Value.int .i64 f2)))
        have y3 := (hrow.cellAt (j * 4 + 3) (by omega)).trans ((toks_get (wantZ s) j 3 (by omega) (by omega)).trans (by simp only [← hjj]; rw [hjw]; rfl : _ = some (Value.string f3)))
        have b0 : W.cell? ⟨Bx, 0, none⟩ = some (.int .i64 f0) := (blk_cell hB 0).trans rfl
        have b1 : W.cell? ⟨Bx, 1, none⟩ = some (.int .i64 f1) := (blk_cell hB 1).trans rfl
        have b2 : W.cell? ⟨Bx, 2, none⟩ = some (.int .i64 f2) := (blk_cell hB 2).trans rfl
        have b3 : W.cell? ⟨Bx, 3, none⟩ = some (.string f3) := (blk_cell hB 3).trans rfl
        have c10 : W.cell? ⟨q10, 0, none⟩ = some (.int .i64 (j : Int)) := (blk_cell hI.b10 0).trans (by rw [hjj]; rfl)
        have c5 : W.cell? ⟨p5, 0, none⟩ = some (.slice (some ⟨g5, 0, none⟩) len c5v) := (blk_cell hI.st.bw 0).trans (by rw [hlen]; rfl)
        have hst := fun W' => hallmarkkit_SameToken.calls f0 f1 f2 f3 f0 f1 f2 f3 true W' (same_tok ⟨f0, f1, f2, f3⟩)
        have hq10 : q10 < W1.heap.size := blk_lt hI1.b10
        have hjl : (j : Int) < (len : Int) := by omega
        have hj0 : (0 : Int) ≤ (j : Int) := by omega
        have hjle : ((j : Int) + 1) ≤ (len : Int) := by omega
        have hge : decide ((len : Int) ≤ (j : Int)) = false := decide_eq_false (by omega)
        have hlnn : (len : Int) ≤ 1048577 := by omega
        have HII := Lib.hid hI
        have HPP := Lib.hid hpre
        have HJX := Lib.hid hjx
        have HJJ := Lib.hid hjj
        have HLL := Lib.hid hlen
        have HST := Lib.hid hst
        have hk7 : 1 ≤ 9 - 1 - 1 := by decide
        clear hI hI1 ht1 hB hpre hjw hjx hrow hst hjj hlen hj
        gi_upto_region 14 with (fail)
        dsimp only
        gi_cut [49] from 37 (fun s49 wx => s49 = .bool false ∧ Hid (Below W.heap.size W wx))
        case first =>
          gi_region_with (refine ⟨trivial, ?_⟩; gi_at_call 14; go_must ((with_reducible refine (CallsIn.inRound l (callsIn_wide.2 (HST.out _))).mono ?_); rintro e5 w5 ⟨rfl, hb5⟩; have HB5 := Lib.hid hb5; clear hb5))
          all_goals
            gi_wp2
            gi_meet
            exact ⟨by first | rfl | (simp; omega), ((Below.refl _ W).drew).trans HB5.out⟩
        case rest =>
          obtain ⟨rfl, HBW⟩ := hcut
          have hI5 := HII.out.turn (Rg.Turn.of_below HBW.out).x hl0 hnw hnl HDLT.out
          have c10 : wc.cell? ⟨q10, 0, none⟩ = some (.int .i64 (j : Int)) := (blk_cell hI5.b10 0).trans (by rw [HJJ.out]; rfl)
          have c5 : wc.cell? ⟨p5, 0, none⟩ = some (.slice (some ⟨g5, 0, none⟩) len c5v) := (blk_cell hI5.st.bw 0).trans (by rw [HLL.out]; rfl)
          have c6 : wc.cell? ⟨p5 + 1, 0, none⟩ = some (.int .i64 er) := (blk_cell hI5.st.be 0).trans rfl
          have cm : wc.cell? ⟨n, 0, none⟩ = some (.int .i64 most) := (blk_cell hI5.st.bm 0).trans rfl
          have c9 : wc.cell? ⟨q9, 0, none⟩ = some (.int .i64 (r : Int)) := (blk_cell hI5.b9 0).trans rfl
          have fz10 := blk_frozen hI5.b10 0
          have HI5 := Lib.hid hI5
          have hsW := HBW.out.size
          have hjx := HJX.out
          rw [HJJ.out, HLL.out] at hjx
          have hnW : n ≤ W.heap.size := Nat.le_trans hnw HII.out.st.bel.size
          have hKP : Rg.Kept n ownK W1.heap.size W (wc.setCell ⟨q10, 0, none⟩ (.int .i64 ((j : Int) + 1))) := (Rg.kept_of_below hnW HBW.out).trans (Rg.kept_set hI5.b10 (not_ownK' (by simp)) (by omega) hq10 0 _)
          have hKO : KeepsOthers W (wc.setCell ⟨q10, 0, none⟩ (.int .i64 ((j : Int) + 1))) := (keepsOthers_of_below HBW.out).trans (KeepsOthers.setCell _ _ _)
          have hIB := hI5.bump (by omega) (by omega) (by omega) hlq
          rw [HJJ.out] at hIB
          have hpl : ((pre ++ [((⟨f0, f1, f2, f3⟩ : Tok), e2)]).length : Nat) = j + 1 := by rw [List.length_append, List.length_singleton, HJJ.out]
          have HKP := Lib.hid hKP
          have HKO := Lib.hid hKO
          have HIB := Lib.hid hIB
          have HPL := Lib.hid hpl
          clear hI5 hKP hKO hIB hpl b0 b1 b2 b3 y0 y1 y2 y3
          have htests : (e2 = 0 ∧ ((j : Int) == (len : Int) - 1) = true ∧ er = 0) ∨ (e2 = 0 ∧ ((j : Int) == (len : Int) - 1) = false) ∨ ((e2 != 0) = true ∧ ((j : Int) == (len : Int) - 1) = true ∧ er = e2) := by
            rcases hjx with ⟨hx0, hlast⟩ | ⟨hx0, hlast, hxe⟩
            · by_cases hl : j + 1 = len
              · exact Or.inl ⟨hx0, beq_iff_eq.2 (by omega), hlast hl⟩
              · exact Or.inr (Or.inl ⟨hx0, beq_eq_false_iff_ne.2 (by omega)⟩)
            · exact Or.inr (Or.inr ⟨bne_iff_ne.2 hx0, beq_iff_eq.2 (by omega), hxe⟩)
          have hrm : ((r : Int) == 0) = false ∨ (((r : Int) == 0) = true ∧ ((j : Int) + 1 == most) = false) ∨ (((r : Int) == 0) = true ∧ ((j : Int) + 1 == most) = true) := by
            cases h1 : ((r : Int) == 0)
            · exact Or.inl rfl
            · cases h2 : ((j : Int) + 1 == most)
              · exact Or.inr (Or.inl ⟨rfl, rfl⟩)
              · exact Or.inr (Or.inr ⟨rfl, rfl⟩)
          clear hjx
          rcases htests with ⟨rfl, h54, her0⟩ | ⟨rfl, h54⟩ | ⟨hb2, h54, her0⟩
          · subst her0
            rcases hrm with hr9 | ⟨hr9, hm9⟩ | ⟨hr9, hm9⟩
            all_goals
              gi_wp2
              first
                | exact ⟨HKO.out, HKP.out, by show InS _ _ _ _ _ _ _ _ _ _ _ _ _ _ _; rw [HPL.out]; exact HIB.out⟩
                | exact ⟨HKO.out, rfl, by have := beq_iff_eq.1 hr9; omega, by rw [HPL.out]; have := beq_iff_eq.1 hm9; omega, by rw [HPL.out]; exact HIB.out⟩
          · rcases hrm with hr9 | ⟨hr9, hm9⟩ | ⟨hr9, hm9⟩
            all_goals
              gi_wp2
              first
                | exact ⟨HKO.out, HKP.out, by show InS _ _ _ _ _ _ _ _ _ _ _ _ _ _ _; rw [HPL.out]; exact HIB.out⟩
                | exact ⟨HKO.out, rfl, by have := beq_iff_eq.1 hr9; omega, by rw [HPL.out]; have := beq_iff_eq.1 hm9; omega, by rw [HPL.out]; exact HIB.out⟩
          · subst her0
            rcases hrm with hr9 | ⟨hr9, hm9⟩ | ⟨hr9, hm9⟩
            all_goals
              gi_wp2
              first
                | exact ⟨HKO.out, HKP.out, by show InS _ _ _ _ _ _ _ _ _ _ _ _ _ _ _; rw [HPL.out]; exact HIB.out⟩
                | exact ⟨HKO.out, rfl, by have := beq_iff_eq.1 hr9; omega, by rw [HPL.out]; have := beq_iff_eq.1 hm9; omega, by rw [HPL.out]; exact HIB.out⟩
      case done =>
        rintro D' xs W hD' hxs hI hdef
        have hlx : xs.length = (wantZ s).length := by rw [hxs]; unfold wantZ; rw [List.length_map]
        rw [hlx] at hI
        have c9 : W.cell? ⟨q9, 0, none⟩ = some (.int .i64 (r : Int)) := (blk_cell hI.b9 0).trans rfl
        have c10 : W.cell? ⟨q10, 0, none⟩ = some (.int .i64 ((wantZ s).length : Int)) := (blk_cell hI.b10 0).trans rfl
        have c5 : W.cell? ⟨p5, 0, none⟩ = some (.slice A5 (wantZ s).length c5v) := (blk_cell hI.st.bw 0).trans rfl
        have HII := Lib.hid hI
        have HDF := Lib.hid hdef
        clear hI hdef hxs hlx hi0
        go_wp2
        refine HK.out _ _ (Handed.intro (g - 1) (by have := HRG.out; omega) (HJ.out _ _ _ ⟨r + 1, D' :: ds, W.heap.size, _, _, _, _, _, _, _, _, _, _, _, _, _, _, _, _, _, _, _, _, _, _, _, _, _, _, _, _, _, _, _, _, _, _, _, _, _, _, _, _, _, _, _, _, _, _, _, _, _, _, _, _, _, _, _, _, _, _, _, _, _, _, _, _, _, _, _, _, _, _, _, _, _, _, _, _, _, _, _, _, _, _, _, _, _, _, _, _, _, by have := HRG.out; omega, by rw [List.map_cons, HDSL.out], HII.out.st.turn (Rg.turnX_alloc _ _) (Nat.le_refl _) hnw, kept_turn HII.out.kp (Rg.turnX_alloc _ _) (Nat.le_refl _) hnl, ?_, ?_, ?_, ?_⟩))
        · have := heap_alloc_new W (.cells #[.int .i64 ((r : Int) + 1)] 3)
          rw [show ((r + 1 : Nat) : Int) = (r : Int) + 1 by omega]
          exact this
        · have := (Array.getElem?_eq_some_iff.1 HII.out.st.be).1
          omega
        · exact List.nodup_cons.2 ⟨fun h => by have := HDLT.out D' h; omega, HND.out⟩
        · intro D hD
          rcases List.mem_cons.1 hD with rfl | hD
          · exact ⟨by omega, (Below.heap_alloc W _ D (Array.getElem?_eq_some_iff.1 HDF.out).1).trans HDF.out⟩
          · exact ⟨(HDS.out D hD).1, (Below.heap_alloc W _ D (Array.getElem?_eq_some_iff.1 (HII.out.dd D hD)).1).trans (HII.out.dd D hD)⟩
      case stop =>
        rintro D' c pre W hD' hpre ⟨rfl, hr00, hmost, hI⟩ hdef
        obtain ⟨j, hjj⟩ : ∃ x, pre.length = x := ⟨_, rfl⟩
        rw [hjj] at hI hmost
        subst hmost hr00
        have c9 : W.cell? ⟨q9, 0, none⟩ = some (.int .i64 0) := (blk_cell hI.b9 0).trans rfl
        have c10 : W.cell? ⟨q10, 0, none⟩ = some (.int .i64 (j : Int)) := (blk_cell hI.b10 0).trans rfl
        have cm : W.cell? ⟨n, 0, none⟩ = some (.int .i64 (j : Int)) := (blk_cell hI.st.bm 0).trans rfl
        have c5 : W.cell? ⟨p5, 0, none⟩ = some (.slice A5 (wantZ s).length c5v) := (blk_cell hI.st.bw 0).trans rfl
        have HII := Lib.hid hI
        have HDF := Lib.hid hdef
        clear hI hdef hi0 hjj
        gi_wp2
        have hjl : (((j : Int) != ((wantZ s).length : Int)) = true) ∨ (((j : Int) != ((wantZ s).length : Int)) = false) := by
          cases ((j : Int) != ((wantZ s).length : Int))
          · exact Or.inr rfl
          · exact Or.inl rfl
        rcases hjl with hjl | hjl
        all_goals
          go_wp2
          refine HK.out _ _ (Handed.intro (g - 1) (by have := HRG.out; omega) (HJ.out _ _ _ ⟨1, D' :: ds, W.heap.size, _, _, _, _, _, _, _, _, _, _, _, _, _, _, _, _, _, _, _, _, _, _, _, _, _, _, _, _, _, _, _, _, _, _, _, _, _, _, _, _, _, _, _, _, _, _, _, _, _, _, _, _, _, _, _, _, _, _, _, _, _, _, _, _, _, _, _, _, _, _, _, _, _, _, _, _, _, _, _, _, _, _, _, _, _, _, _, _, _, by have := HRG.out; omega, by rw [List.map_cons, HDSL.out], HII.out.st.turn (Rg.turnX_alloc _ _) (Nat.le_refl _) hnw, kept_turn HII.out.kp (Rg.turnX_alloc _ _) (Nat.le_refl _) hnl, ?_, ?_, ?_, ?_⟩))
          · exact heap_alloc_new W (.cells #[.int .i64 1] 3)
          · have := (Array.getElem?_eq_some_iff.1 HII.out.st.be).1
            omega
          · exact List.nodup_cons.2 ⟨fun h => by have := HDLT.out D' h; omega, HND.out⟩
          · intro D hD
            rcases List.mem_cons.1 hD with rfl | hD
            · exact ⟨by omega, (Below.heap_alloc W _ D (Array.getElem?_eq_some_iff.1 HDF.out).1).trans HDF.out⟩
            · exact ⟨(HDS.out D hD).1, (Below.heap_alloc W _ D (Array.getElem?_eq_some_iff.1 (HII.out.dd D hD)).1).trans (HII.out.dd D hD)⟩
    · have hr2 : r = 2 := by have := HRG.out; omega
      subst hr2
      have hkn := hallmarklaw04_TokenKnown.calls 30 true wx (HT2.out wx HS.out.bel) (tknown_at 30 (Nat.le_refl _))
      have HKN := Lib.hid hkn
      clear hkn
      go_wp2_with (go_at_call 3; go_must ((with_reducible refine HKN.out.mono ?_); rintro e6 w6 ⟨rfl, hb6⟩; have HBR := Lib.hid (blk_below HS.out.br hb6); have cbr : w6.cell? ⟨n + 1, 0, none⟩ = some (.bool false) := (blk_cell HBR.out 0).trans rfl; have fbr := blk_frozen HBR.out 0; have HB6 := Lib.hid hb6; clear hb6))
      have hsw6 := HB6.out.size
      show LeavesInM Fence.wide 9 Tryd.prog _ _ _ DSL .returning _
      rw [← HDSL.out]
      refine leaves_all (m := n) (fun W => Below n w W ∧ W.heap[n + 1]? = some (.cells #[.bool true] 4 (0, 0))) ?_ ?_ ds _ ⟨?_, ?_⟩ HND.out ?_
      · rintro W D ⟨q1, q2⟩ hnD hD
        exact ⟨q1.trans (Rg.kept_putObj (K := ownK) (n₀ := n) (M := D + 1) D _ (.deferred none) hnD (by omega) hD rfl).1, (World.putObj_heap_other (by rintro rfl; rw [q2] at hD; cases hD)).trans q2⟩
      · rintro W ⟨q1, q2⟩
        have z1 := (blk_cell q2 0).trans rfl
        exact ⟨_, results_c1 rfl _ _ ⟨n + 1, 0, none⟩ (.bool true) rfl (by go_simp), rfl, by rw [HN.out]; exact q1⟩
      · exact (HS.out.bel.trans (HB6.out.mono (Nat.le_trans hnw HS.out.bel.size))).setCell (p := ⟨n + 1, 0, none⟩) (show n ≤ n + 1 by omega) _
      · exact blk_put HBR.out 0 _ rfl
      · intro D hD
        have h1 := HDS.out D hD
        exact ⟨h1.1, (Below.heap_setCell w6 ⟨n + 1, 0, none⟩ _ D (by
          intro e
          have e' : D = n + 1 := e
          subst e'
          have h2 := h1.2
          rw [HS.out.br] at h2
          cases h2)).trans ((HB6.out.block D (Array.getElem?_eq_some_iff.1 h1.2).1).trans h1.2)⟩
theorem tokseq_calls (a0 : ByteArray) (a1 : Int) (h0 : a0.size ≤ 1048576) (h1 : (Lit.int .i64 a1).wf = true) (w : World) (hT : Tabs w) :
    Calls Tryd.prog 4 #[.string a0, .int .i64 a1] w fun e w' => e = .returned (.bool true) ∧ Below w.heap.size w w' := seq_law a0 a1 h0 w hT
end Go.Proofs.YtkfcoikfhpabmaaDoor.U
