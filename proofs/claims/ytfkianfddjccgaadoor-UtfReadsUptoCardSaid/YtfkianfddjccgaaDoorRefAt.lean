/- What the reference's functions over pieces answer: plain Lean. -/
import Derived.Test.YtfkianfddjccgaaDoorList
namespace Go.Proofs.YtfkianfddjccgaaDoor.U
open Go.RowKit Go.Proofs.YtfkianfddjccgaaDoorW.PrintWords
set_option linter.unusedSimpArgs false

/-- is a number a rune? -/
abbrev isRune (r : Int) : Prop := (0 ≤ r ∧ r < 55296) ∨ (57343 < r ∧ r ≤ 1114111)
theorem refIsRune_eq (r : Int) : hallmarkref02_IsRune.f r = some (decide (isRune r)) := by
  unfold hallmarkref02_IsRune.f
  by_cases a : r ≥ 0
  · rw [if_pos a]
    by_cases b : r ≤ 1114111
    · rw [if_pos b]
      by_cases c : r < 55296
      · rw [if_pos c]
        congr 1
        exact (decide_eq_true (Or.inl ⟨a, c⟩)).symm
      · rw [if_neg c]
        congr 1
        exact decide_eq_decide.2 ⟨fun g => Or.inr ⟨g, b⟩, fun g => by omega⟩
    · rw [if_neg b]
      congr 1
      exact (decide_eq_false (by omega)).symm
  · rw [if_neg a]
    congr 1
    exact (decide_eq_false (by omega)).symm

/-- how many bytes a rune's encoding has -/
def sizeZ (r : Int) : Int := if r < 128 then 1 else if r < 2048 then 2 else if r < 65536 then 3 else 4
theorem refSize_eq (r : Int) : hallmarkref02_Size.f r = some (sizeZ r) := by
  unfold hallmarkref02_Size.f sizeZ
  repeat' split
  all_goals rfl

theorem encZ_of (r : Int) (hr : isRune r) : Lib.encodeRuneZ r =
    if r < 128 then [r] else if r < 2048 then [192 + r / 64, 128 + r % 64] else if r < 65536 then [224 + r / 4096, 128 + r / 64 % 64, 128 + r % 64]
    else [240 + r / 262144, 128 + r / 4096 % 64, 128 + r / 64 % 64, 128 + r % 64] := by
  unfold isRune at hr
  by_cases a : r < 128
  · rw [if_pos a, Lib.encodeRuneZ_one (by omega) (by omega)]
  · rw [if_neg a]
    by_cases b : r < 2048
    · rw [if_pos b, Lib.encodeRuneZ_two (by omega) (by omega)]
    · rw [if_neg b]
      by_cases c : r < 65536
      · rw [if_pos c, Lib.encodeRuneZ_three (by omega)]
      · rw [if_neg c, Lib.encodeRuneZ_four (by omega) (by omega)]

theorem refEnc_j0 (r : Int) (hr : isRune r) (k : Nat) (hk : 8 ≤ k) : hallmarkref02_Encoding.j0 k r = some (Lib.encodeRuneZ r) := by
  obtain ⟨k, rfl⟩ : ∃ m, k = m + 1 := ⟨k - 1, by omega⟩
  obtain ⟨k, rfl⟩ : ∃ m, k = m + 1 := ⟨k - 1, by omega⟩
  obtain ⟨k, rfl⟩ : ∃ m, k = m + 1 := ⟨k - 1, by omega⟩
  obtain ⟨k, rfl⟩ : ∃ m, k = m + 1 := ⟨k - 1, by omega⟩
  obtain ⟨k, rfl⟩ : ∃ m, k = m + 1 := ⟨k - 1, by omega⟩
  rw [encZ_of r hr]
  have h0 : 0 ≤ r ∧ r ≤ 1114111 := by unfold isRune at hr; omega
  clear hr
  have t1 : Int.tdiv r 64 = r / 64 := Int.tdiv_eq_ediv_of_nonneg h0.1
  have t2 : Int.tdiv (r / 64) 64 = r / 4096 := by
    rw [Int.tdiv_eq_ediv_of_nonneg (by omega)]
    omega
  have t3 : Int.tdiv (r / 4096) 64 = r / 262144 := by
    rw [Int.tdiv_eq_ediv_of_nonneg (by omega)]
    omega
  have m1 : Int.tmod r 64 = r % 64 := Int.tmod_eq_emod_of_nonneg h0.1
  have m2 : Int.tmod (r / 64) 64 = r / 64 % 64 := Int.tmod_eq_emod_of_nonneg (by omega)
  have m3 : Int.tmod (r / 4096) 64 = r / 4096 % 64 := Int.tmod_eq_emod_of_nonneg (by omega)
  have w1 : wrap64 (r / 64) = r / 64 := by unfold wrap64; omega
  have w2 : wrap64 (r / 4096) = r / 4096 := by unfold wrap64; omega
  have w3 : wrap64 (r / 262144) = r / 262144 := by unfold wrap64; omega
  have c1 : wrap64 (128 + r % 64) % 256 = 128 + r % 64 := by unfold wrap64; omega
  have c2 : wrap64 (128 + r / 64 % 64) % 256 = 128 + r / 64 % 64 := by unfold wrap64; omega
  have c3 : wrap64 (128 + r / 4096 % 64) % 256 = 128 + r / 4096 % 64 := by unfold wrap64; omega
  have s0 : wrap64 (1 - 1) = 0 := by first | decide | (unfold wrap64; decide)
  have s1 : wrap64 (2 - 1) = 1 := by first | decide | (unfold wrap64; decide)
  have s2 : wrap64 (3 - 1) = 2 := by first | decide | (unfold wrap64; decide)
  have s3 : wrap64 (4 - 1) = 3 := by first | decide | (unfold wrap64; decide)
  simp only [hallmarkref02_Encoding.j0, refSize_eq, Option.bind_some]
  unfold sizeZ
  by_cases a : r < 128
  · simp only [if_pos a, if_true]
    congr 2
    omega
  · by_cases b : r < 2048
    · have cc : wrap64 (192 + r / 64) % 256 = 192 + r / 64 := by unfold wrap64; omega
      simp only [if_neg a, if_pos b, s1, s0, show ((2 : Int) = 1) = False by decide, show ((0 : Int) ≤ 2) = True by decide, if_true, if_false, show ((2 : Int).toNat ≤ 281474976710656) = True by decide]
      simp only [hallmarkref02_Encoding.l0, t1, m1, c1, w1, cc, s0, show List.replicate (2 : Int).toNat (0 : Int) = [0, 0] from rfl, List.length_cons, List.length_nil, List.length_set]
      rfl
    · by_cases c : r < 65536
      · have cc : wrap64 (224 + r / 4096) % 256 = 224 + r / 4096 := by unfold wrap64; omega
        simp only [if_neg a, if_neg b, if_pos c, s2, s1, s0, show ((3 : Int) = 1) = False by decide, show ((0 : Int) ≤ 3) = True by decide, if_true, if_false, show ((3 : Int).toNat ≤ 281474976710656) = True by decide]
        simp only [hallmarkref02_Encoding.l0, t1, t2, m1, m2, c1, c2, w1, w2, cc, s1, s0, show List.replicate (3 : Int).toNat (0 : Int) = [0, 0, 0] from rfl, List.length_cons, List.length_nil, List.length_set]
        rfl
      · have cc : wrap64 (240 + r / 262144) % 256 = 240 + r / 262144 := by unfold wrap64; omega
        simp only [if_neg a, if_neg b, if_neg c, s3, s2, s1, s0, show ((4 : Int) = 1) = False by decide, show ((0 : Int) ≤ 4) = True by decide, if_true, if_false, show ((4 : Int).toNat ≤ 281474976710656) = True by decide]
        simp only [hallmarkref02_Encoding.l0, t1, t2, t3, m1, m2, m3, c1, c2, c3, w1, w2, w3, cc, s2, s1, s0, show List.replicate (4 : Int).toNat (0 : Int) = [0, 0, 0, 0] from rfl, List.length_cons, List.length_nil, List.length_set]
        rfl

theorem refEnc_eq (r : Int) (hr : isRune r) (k : Nat) (hk : 8 ≤ k) : hallmarkref02_Encoding.f k r = some (Lib.encodeRuneZ r) := by
  unfold hallmarkref02_Encoding.f
  rw [refIsRune_eq, decide_eq_true hr]
  simp only [Option.bind_some, if_true]
  exact refEnc_j0 r hr k hk

/-- do these numbers stand as bytes at the head of a text? -/
def stands : List Int → List UInt8 → Bool
  | [], _ => true
  | _ :: _, [] => false
  | x :: xs, b :: bs => decide ((b.toNat : Int) = x) && stands xs bs

theorem drop_bt (s : ByteArray) (q : Nat) (h : q < s.size) : ∃ b rest, s.data.toList.drop q = b :: rest ∧ (b.toNat : Int) = bt s q ∧ s.data.toList.drop (q + 1) = rest := by
  have hl : q < s.data.toList.length := by rw [← Lib.size_eq]; exact h
  refine ⟨s.data.toList[q], s.data.toList.drop (q + 1), List.drop_eq_getElem_cons hl, ?_, rfl⟩
  have := getD_bt s q h
  rw [List.getD_eq_getElem?_getD, List.getElem?_eq_getElem hl] at this
  exact this

theorem stands_cons (x : Int) (xs : List Int) (b : UInt8) (bs : List UInt8) : stands (x :: xs) (b :: bs) = (decide ((b.toNat : Int) = x) && stands xs bs) := rfl
theorem same_loop (s : ByteArray) (hs : s.size ≤ 140737488351232) (p : Nat) (l : List Int) (hl : p + l.length ≤ s.size) : ∀ (n i k : Nat), i + n = l.length → n < k →
    hallmarkref02_same.l0 k s p l i = some (stands (l.drop i) (s.data.toList.drop (p + i)))
  | 0, i, k, hi, hk => by
    obtain ⟨k, rfl⟩ : ∃ m, k = m + 1 := ⟨k - 1, by omega⟩
    unfold hallmarkref02_same.l0
    rw [if_neg (by omega), List.drop_eq_nil_of_le (by omega)]
    rfl
  | n + 1, i, k, hi, hk => by
    obtain ⟨k, rfl⟩ : ∃ m, k = m + 1 := ⟨k - 1, by omega⟩
    have hlt : i < l.length := by omega
    have ih := same_loop s hs p l hl n (i + 1) k (by omega) (by omega)
    have hw : wrap64 ((i : Int) + 1) = ((i + 1 : Nat) : Int) := by unfold wrap64; omega
    have hq : wrap64 ((p : Int) + (i : Int)) = ((p + i : Nat) : Int) := by unfold wrap64; omega
    obtain ⟨b, rest, e1, e2, e3⟩ := drop_bt s (p + i) (by omega)
    unfold hallmarkref02_same.l0
    rw [hw, hq, ih, rd_nat l i hlt, if_pos (by omega), if_pos (by omega), if_pos (by omega), if_pos (by omega), List.drop_eq_getElem_cons hlt, e1, ← e2]
    rw [show p + (i + 1) = p + i + 1 by omega, e3, stands_cons]
    by_cases c : (b.toNat : Int) = l[i]
    · rw [if_pos c, decide_eq_true c, Bool.true_and]
    · rw [if_neg c, decide_eq_false c, Bool.false_and]
theorem same_eq (s : ByteArray) (hs : s.size ≤ 140737488351232) (p : Nat) (l : List Int) (hl : p + l.length ≤ s.size) (k : Nat) (hk : l.length < k) :
    hallmarkref02_same.f k s p l = some (stands l (s.data.toList.drop p)) := by
  unfold hallmarkref02_same.f
  rw [if_neg (by unfold wrap64; omega)]
  exact same_loop s hs p l hl l.length 0 k (by omega) hk

theorem stands_iff : ∀ (l : List Int) (L : List UInt8), (∀ x ∈ l, 0 ≤ x ∧ x < 256) → (stands l L = true ↔ ∃ rest, L = l.map (fun x => x.toNat.toUInt8) ++ rest)
  | [], L, _ => ⟨fun _ => ⟨L, rfl⟩, fun _ => rfl⟩
  | x :: xs, [], _ => ⟨fun h => by simp [stands] at h, fun ⟨r, h⟩ => by simp at h⟩
  | x :: xs, b :: bs, h => by
    have ih := stands_iff xs bs (fun y hy => h y (by simp [hy]))
    have hx := h x (by simp)
    unfold stands
    rw [Bool.and_eq_true, decide_eq_true_eq, ih]
    constructor
    · rintro ⟨hb, rest, rfl⟩
      refine ⟨rest, ?_⟩
      rw [List.map_cons, List.cons_append]
      congr 1
      rw [← hb]
      simp
    · rintro ⟨rest, hr⟩
      rw [List.map_cons, List.cons_append] at hr
      injection hr with h1 h2
      refine ⟨?_, rest, h2⟩
      rw [h1]
      exact Utf.byte_back x hx.1 hx.2
theorem stands_enc (r : Int) (L : List UInt8) : stands (Lib.encodeRuneZ r) L = true ↔ ∃ rest, L = Lib.encodeRune r ++ rest :=
  stands_iff _ L (Lib.encodeRuneZ_byte r)

/-- a number, if it is a rune of so many bytes; else -1 -/
def fin (n size : Int) : Int := if isRune n ∧ sizeZ n = size then n else -1
def spellGo (size : Int) : List Int → Int → Int
  | [], n => fin n size
  | b :: l, n => if b < 128 then -1 else if b > 191 then -1 else spellGo size l (64 * n + b - 128)
/-- so many bytes of a text from a place on -/
def bts (s : ByteArray) : Nat → Nat → List Int
  | 0, _ => []
  | m + 1, q => bt s (q : Int) :: bts s m (q + 1)

def bnd : Nat → Int
  | 0 => 200000000
  | 1 => 2000000
  | 2 => 20000
  | _ => 255
theorem bnd_le (m : Nat) : bnd m ≤ 200000000 := by
  unfold bnd
  split <;> omega
theorem bnd_step (m : Nat) (hm : m + 1 ≤ 3) (n : Int) (h : n ≤ bnd (m + 1)) : 64 * n + 63 ≤ bnd m := by
  rcases (show m = 0 ∨ m = 1 ∨ m = 2 by omega) with rfl | rfl | rfl
  · have : n ≤ 2000000 := h
    show 64 * n + 63 ≤ 200000000
    omega
  · have : n ≤ 20000 := h
    show 64 * n + 63 ≤ 2000000
    omega
  · have : n ≤ 255 := h
    show 64 * n + 63 ≤ 20000
    omega

theorem spell_loop (s : ByteArray) (hs : s.size ≤ 140737488351232) (p z : Nat) (hz : p + z ≤ s.size) : ∀ (m i k : Nat) (n : Int), i + m = z → m < k → 0 ≤ n → m ≤ 3 → n ≤ bnd m →
    hallmarkref02_spelled.l0 k s p z n i = some (spellGo z (bts s m (p + i)) n) := by
  intro m
  induction m with
  | zero =>
    intro i k n hi hk hn _ _
    obtain ⟨k, rfl⟩ : ∃ m, k = m + 1 := ⟨k - 1, by omega⟩
    unfold hallmarkref02_spelled.l0
    rw [if_neg (by omega), refIsRune_eq, refSize_eq]
    unfold bts spellGo fin
    by_cases a : isRune n
    · by_cases b : sizeZ n = (z : Int)
      · simp only [Option.bind_some, decide_eq_true a, if_true, if_pos b, if_pos (And.intro a b)]
      · simp only [Option.bind_some, decide_eq_true a, if_true, if_neg b, if_neg (fun g : isRune n ∧ sizeZ n = (z : Int) => b g.2)]
    · simp only [Option.bind_some, decide_eq_false a, Bool.false_eq_true, if_false, if_neg (fun g : isRune n ∧ sizeZ n = (z : Int) => a g.1)]
  | succ m ih =>
    intro i k n hi hk hn hm hb
    obtain ⟨k, rfl⟩ : ∃ m, k = m + 1 := ⟨k - 1, by omega⟩
    have hr := bt_range s ((p + i : Nat) : Int)
    have hn2 : n ≤ 200000000 := Int.le_trans hb (bnd_le (m + 1))
    have HST : Hid (64 * n + 63 ≤ bnd m) := bnd_step m hm n hb
    clear hb
    obtain ⟨c, hc⟩ : ∃ c, bt s ((p + i : Nat) : Int) = c := ⟨_, rfl⟩
    rw [hc] at hr
    have HC : Hid (bt s ((p + i : Nat) : Int) = c) := hc
    clear hc
    have ih : Hid (∀ (i k : Nat) (n : Int), i + m = z → m < k → 0 ≤ n → m ≤ 3 → n ≤ bnd m → hallmarkref02_spelled.l0 k s p z n i = some (spellGo z (bts s m (p + i)) n)) := ih
    have hw : wrap64 ((i : Int) + 1) = ((i + 1 : Nat) : Int) := by unfold wrap64; omega
    have hq : wrap64 ((p : Int) + (i : Int)) = ((p + i : Nat) : Int) := by unfold wrap64; omega
    have hwb : wrap64 c = c := by unfold wrap64; omega
    have e1 : wrap64 (64 * n) = 64 * n := by unfold wrap64; omega
    have e2 : wrap64 (64 * n + c) = 64 * n + c := by unfold wrap64; omega
    have e3 : wrap64 (64 * n + c - 128) = 64 * n + c - 128 := by unfold wrap64; omega
    have i1 : (i : Int) < (z : Int) := by omega
    have i2 : (0 : Int) ≤ ((p + i : Nat) : Int) := by omega
    have i3 : ((p + i : Nat) : Int) < (s.size : Int) := by omega
    unfold hallmarkref02_spelled.l0 bts spellGo
    rw [hw, hq, HC.out, hwb, e1, e2, e3, if_pos i1, if_pos i2, if_pos i3]
    by_cases a : c < 128
    · rw [if_pos a, if_pos a]
    · rw [if_neg a, if_neg a]
      by_cases b : c > 191
      · rw [if_pos b, if_pos b]
      · rw [if_neg b, if_neg b]
        have hg := ih.out (i + 1) k (64 * n + c - 128) (by omega) (by omega) (by omega) (by omega) (Int.le_trans (show 64 * n + c - 128 ≤ 64 * n + 63 by omega) HST.out)
        rw [show p + (i + 1) = p + i + 1 by omega] at hg
        exact hg

/-- what the first byte gives, by the encoding's size -/
def lead (z : Nat) (b : Int) : Int := if z = 2 then b - 192 else if z = 3 then b - 224 else if z = 4 then b - 240 else b
def spellZ (s : ByteArray) (p z : Nat) : Int := if lead z (bt s p) < 0 then -1 else spellGo z (bts s (z - 1) (p + 1)) (lead z (bt s p))

theorem spelled_eq (s : ByteArray) (hs : s.size ≤ 140737488351232) (p z : Nat) (h1 : 1 ≤ z) (h4 : z ≤ 4) (hz : p + z ≤ s.size) (k : Nat) (hk : 10 ≤ k) : hallmarkref02_spelled.f k s p z = some (spellZ s p z) := by
  obtain ⟨k, rfl⟩ : ∃ m, k = m + 1 := ⟨k - 1, by omega⟩
  obtain ⟨k, rfl⟩ : ∃ m, k = m + 1 := ⟨k - 1, by omega⟩
  obtain ⟨k, rfl⟩ : ∃ m, k = m + 1 := ⟨k - 1, by omega⟩
  have hr := bt_range s (p : Int)
  have i0 : (0 : Int) ≤ (p : Int) := by omega
  have i1 : (p : Int) < (s.size : Int) := by omega
  obtain ⟨b, hb⟩ : ∃ b, bt s (p : Int) = b := ⟨_, rfl⟩
  rw [hb] at hr
  have HB : Hid (bt s (p : Int) = b) := hb
  clear hb
  have w0 : wrap64 b = b := by unfold wrap64; omega
  have w2 : wrap64 (b - 192) = b - 192 := by unfold wrap64; omega
  have w3 : wrap64 (b - 224) = b - 224 := by unfold wrap64; omega
  have w4 : wrap64 (b - 240) = b - 240 := by unfold wrap64; omega
  have hl : lead z b ≤ 255 := by
    unfold lead
    repeat' split
    all_goals omega
  have hgo : ¬ lead z b < 0 → hallmarkref02_spelled.l0 k s p z (lead z b) ((1 : Nat) : Int) = some (spellGo z (bts s (z - 1) (p + 1)) (lead z b)) := by
    intro hn
    refine spell_loop s hs p z hz (z - 1) 1 k (lead z b) (by omega) (by omega) (by omega) (by omega) ?_
    rcases (show z = 1 ∨ z = 2 ∨ z = 3 ∨ z = 4 by omega) with rfl | rfl | rfl | rfl
    · show lead 1 b ≤ 200000000
      omega
    · show lead 2 b ≤ 2000000
      omega
    · show lead 3 b ≤ 20000
      omega
    · exact hl
  unfold hallmarkref02_spelled.f spellZ
  rw [HB.out, w0, w2, if_pos i0, if_pos i1]
  have key : ∀ x : Int, x = lead z b → hallmarkref02_spelled.j2 (k + 1) s p z x = some (if lead z b < 0 then -1 else spellGo z (bts s (z - 1) (p + 1)) (lead z b)) := by
    intro x hx
    subst hx
    by_cases n : lead z b < 0
    · simp only [hallmarkref02_spelled.j2, if_pos n]
    · simp only [hallmarkref02_spelled.j2, if_neg n]
      exact hgo n
  rcases (show z = 1 ∨ z = 2 ∨ z = 3 ∨ z = 4 by omega) with rfl | rfl | rfl | rfl
  · simp only [hallmarkref02_spelled.j0, hallmarkref02_spelled.j1, show (((1 : Nat) : Int) = 2) = False by decide, show (((1 : Nat) : Int) = 3) = False by decide, show (((1 : Nat) : Int) = 4) = False by decide, if_false]
    exact key b rfl
  · simp only [hallmarkref02_spelled.j0, hallmarkref02_spelled.j1, show (((2 : Nat) : Int) = 2) = True by decide, show (((2 : Nat) : Int) = 3) = False by decide, show (((2 : Nat) : Int) = 4) = False by decide, if_false, if_true]
    exact key (b - 192) rfl
  · simp only [hallmarkref02_spelled.j0, hallmarkref02_spelled.j1, show (((3 : Nat) : Int) = 2) = False by decide, show (((3 : Nat) : Int) = 3) = True by decide, show (((3 : Nat) : Int) = 4) = False by decide, if_false, if_true, w3]
    exact key (b - 224) rfl
  · simp only [hallmarkref02_spelled.j0, hallmarkref02_spelled.j1, show (((4 : Nat) : Int) = 2) = False by decide, show (((4 : Nat) : Int) = 3) = False by decide, show (((4 : Nat) : Int) = 4) = True by decide, if_false, if_true, w4]
    exact key (b - 240) rfl

theorem spellGo_told (z : Int) : ∀ (l : List Int) (n : Int), 0 ≤ spellGo z l n → isRune (spellGo z l n) ∧ sizeZ (spellGo z l n) = z
  | [], n, h => by
    unfold spellGo fin at h ⊢
    by_cases c : isRune n ∧ sizeZ n = z
    · rw [if_pos c]
      exact c
    · rw [if_neg c] at h
      omega
  | b :: l, n, h => by
    unfold spellGo at h ⊢
    by_cases c : b < 128
    · rw [if_pos c] at h
      omega
    · rw [if_neg c] at h ⊢
      by_cases d : b > 191
      · rw [if_pos d] at h
        omega
      · rw [if_neg d] at h ⊢
        exact spellGo_told z l _ h
theorem spellZ_told (s : ByteArray) (p z : Nat) (h : 0 ≤ spellZ s p z) : isRune (spellZ s p z) ∧ sizeZ (spellZ s p z) = z := by
  unfold spellZ at h ⊢
  by_cases c : lead z (bt s p) < 0
  · rw [if_pos c] at h
    omega
  · rw [if_neg c] at h ⊢
    exact spellGo_told z _ _ h

theorem encZ_size (r : Int) (hr : isRune r) : ((Lib.encodeRuneZ r).length : Int) = sizeZ r := by
  rw [encZ_of r hr]
  unfold sizeZ
  repeat' split
  all_goals rfl

theorem stands_bts (s : ByteArray) : ∀ (l : List Int) (p : Nat), stands l (s.data.toList.drop p) = true → bts s l.length p = l
  | [], p, _ => rfl
  | x :: xs, p, h => by
    by_cases hp : p < s.size
    · obtain ⟨b, rest, e1, e2, e3⟩ := drop_bt s p hp
      rw [e1, stands_cons, Bool.and_eq_true, decide_eq_true_eq, ← e3] at h
      have ih := stands_bts s xs (p + 1) h.2
      show bt s (p : Int) :: bts s xs.length (p + 1) = x :: xs
      rw [ih, ← e2, h.1]
    · rw [List.drop_eq_nil_of_le (by rw [← Lib.size_eq]; omega)] at h
      simp [stands] at h

theorem spellZ_enc (s : ByteArray) (p : Nat) (r : Int) (hr : isRune r) (h : bts s (Lib.encodeRuneZ r).length p = Lib.encodeRuneZ r) : spellZ s p (Lib.encodeRuneZ r).length = r := by
  have hz := encZ_size r hr
  have he := encZ_of r hr
  have h0 : 0 ≤ r ∧ r ≤ 1114111 := by unfold isRune at hr; omega
  by_cases a : r < 128
  · rw [if_pos a] at he
    have hs : sizeZ r = 1 := if_pos a
    rw [he] at h ⊢
    injection h with h1 _
    unfold spellZ
    rw [h1]
    show (if r < 0 then -1 else fin r 1) = r
    rw [if_neg (by omega)]
    exact if_pos ⟨hr, hs⟩
  · rw [if_neg a] at he
    by_cases b : r < 2048
    · rw [if_pos b] at he
      have hs : sizeZ r = 2 := by unfold sizeZ; rw [if_neg a, if_pos b]
      rw [he] at h ⊢
      injection h with h1 h2
      unfold spellZ
      rw [h1]
      show (if 192 + r / 64 - 192 < 0 then -1 else spellGo 2 (bts s 1 (p + 1)) (192 + r / 64 - 192)) = r
      rw [if_neg (by omega), show bts s 1 (p + 1) = [128 + r % 64] from h2]
      unfold spellGo
      rw [if_neg (by omega), if_neg (by omega)]
      unfold spellGo
      rw [show 64 * (192 + r / 64 - 192) + (128 + r % 64) - 128 = r by omega]
      exact if_pos ⟨hr, hs⟩
    · rw [if_neg b] at he
      by_cases c : r < 65536
      · rw [if_pos c] at he
        have hs : sizeZ r = 3 := by unfold sizeZ; rw [if_neg a, if_neg b, if_pos c]
        rw [he] at h ⊢
        injection h with h1 h2
        unfold spellZ
        rw [h1]
        show (if 224 + r / 4096 - 224 < 0 then -1 else spellGo 3 (bts s 2 (p + 1)) (224 + r / 4096 - 224)) = r
        rw [if_neg (by omega), show bts s 2 (p + 1) = [128 + r / 64 % 64, 128 + r % 64] from h2]
        unfold spellGo
        rw [if_neg (by omega), if_neg (by omega)]
        unfold spellGo
        rw [if_neg (by omega), if_neg (by omega)]
        unfold spellGo
        rw [show 64 * (64 * (224 + r / 4096 - 224) + (128 + r / 64 % 64) - 128) + (128 + r % 64) - 128 = r by omega]
        exact if_pos ⟨hr, hs⟩
      · rw [if_neg c] at he
        have hs : sizeZ r = 4 := by unfold sizeZ; rw [if_neg a, if_neg b, if_neg c]
        rw [he] at h ⊢
        injection h with h1 h2
        unfold spellZ
        rw [h1]
        show (if 240 + r / 262144 - 240 < 0 then -1 else spellGo 4 (bts s 3 (p + 1)) (240 + r / 262144 - 240)) = r
        rw [if_neg (by omega), show bts s 3 (p + 1) = [128 + r / 4096 % 64, 128 + r / 64 % 64, 128 + r % 64] from h2]
        unfold spellGo
        rw [if_neg (by omega), if_neg (by omega)]
        unfold spellGo
        rw [if_neg (by omega), if_neg (by omega)]
        unfold spellGo
        rw [if_neg (by omega), if_neg (by omega)]
        unfold spellGo
        rw [show 64 * (64 * (64 * (240 + r / 262144 - 240) + (128 + r / 4096 % 64) - 128) + (128 + r / 64 % 64) - 128) + (128 + r % 64) - 128 = r by omega]
        exact if_pos ⟨hr, hs⟩

/-- is the piece at a place a stray byte? -/
abbrev strayAt (s : ByteArray) (p : Nat) : Prop := (Utf8.decode s p).1 = 65533 ∧ (Utf8.decode s p).2 = 1

/-- the encoding of a piece that is not stray stands in the text -/
theorem piece_stands (s : ByteArray) (p : Nat) (hp : p < s.size) (hn : ¬ strayAt s p) :
    stands (Lib.encodeRuneZ ((Utf8.decode s p).1 : Int)) (s.data.toList.drop p) = true ∧ (Lib.encodeRuneZ ((Utf8.decode s p).1 : Int)).length = (Utf8.decode s p).2 := by
  have hne := Utf.drop_ne s p hp
  have hd := Lib.decodeL_drop s p
  have he := Lib.encode_decode (s.data.toList.drop p) hne (by rw [hd]; exact hn)
  rw [hd] at he
  refine ⟨(stands_enc _ _).2 ⟨(s.data.toList.drop p).drop (Utf8.decode s p).2, ?_⟩, ?_⟩
  · rw [he, List.take_append_drop]
  · have h1 := congrArg List.length he
    have hw := (Utf.at_width s p hp).2
    rw [List.length_take, List.length_drop, ← Lib.size_eq] at h1
    unfold Lib.encodeRune at h1
    rw [List.length_map] at h1
    omega
theorem piece_rune (s : ByteArray) (p : Nat) : isRune ((Utf8.decode s p).1 : Int) := by
  have := Utf.decode_proper (s.data.toList.drop p)
  rw [Lib.decodeL_drop] at this
  exact this

/-- what stands in the text is the piece -/
theorem stands_piece (s : ByteArray) (p : Nat) (v : Int) (hv : isRune v) (h : stands (Lib.encodeRuneZ v) (s.data.toList.drop p) = true) :
    Utf8.decode s p = (v.toNat, (Lib.encodeRuneZ v).length) := by
  obtain ⟨rest, hr⟩ := (stands_enc _ _).1 h
  rw [← Lib.decodeL_drop, hr, Utf.decode_encode v hv]
  unfold Lib.encodeRune
  rw [List.length_map]

/-- the reference's piece at a place -/
def atZ (s : ByteArray) (p : Nat) : Int × Int × Int × Bool := ((p : Int), ((p + (Utf8.decode s p).2 : Nat) : Int), ((Utf8.decode s p).1 : Int), decide (strayAt s p))

theorem at_end (s : ByteArray) (hs : s.size ≤ 140737488351232) (p z k : Nat) (hp : p < s.size) (hst : strayAt s p) : hallmarkref02_at.j1 (k + 1) s p z false = some (atZ s p) := by
  have hw : wrap64 ((p : Int) + 1) = ((p + 1 : Nat) : Int) := by unfold wrap64; omega
  simp only [hallmarkref02_at.j1, Bool.false_eq_true, if_false, hw]
  unfold atZ
  rw [decide_eq_true hst, hst.1, hst.2]
  rfl

end Go.Proofs.YtfkianfddjccgaaDoor.U
