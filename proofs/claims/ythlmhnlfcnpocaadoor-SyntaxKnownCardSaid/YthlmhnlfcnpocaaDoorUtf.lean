/- Texts as pieces: plain Lean over the model's own decoding of UTF-8; no program. -/
import Derived.Lib.MapLaws
import Derived.Lib.TrimUEq
import Derived.Lib.RuneBytes
import Derived.Lib.RuneCount
import Derived.Lib.ValidU
namespace Go.Proofs.YthlmhnlfcnpocaaDoor.Utf
open Go Go.Lib

/-- the pieces of a text: what each stands for, and how many bytes it has -/
def pieces : Nat → List UInt8 → List (Nat × Nat)
  | 0, _ => []
  | n + 1, l => if l = [] then [] else decodeL l :: pieces n (l.drop (decodeL l).2)
def pcs (l : List UInt8) : List (Nat × Nat) := pieces l.length l

theorem width_pos (l : List UInt8) (h : l ≠ []) : 1 ≤ (decodeL l).2 := by
  have h0 : 0 < l.length := by
    cases l with
    | nil => exact absurd rfl h
    | cons _ _ => simp
  have hz : 0 < (⟨l.toArray⟩ : ByteArray).size := by
    show 0 < l.toArray.size
    simpa using h0
  exact decode_width_pos ⟨l.toArray⟩ 0 hz

theorem pieces_nil (n : Nat) : pieces n [] = [] := by cases n <;> rfl

theorem pieces_fuel : ∀ (n m : Nat) (l : List UInt8), l.length ≤ n → l.length ≤ m → pieces n l = pieces m l
  | 0, m, l, hn, _ => by
    have : l = [] := List.eq_nil_of_length_eq_zero (by omega)
    subst this
    rw [pieces_nil, pieces_nil]
  | n + 1, 0, l, _, hm => by
    have : l = [] := List.eq_nil_of_length_eq_zero (by omega)
    subst this
    rw [pieces_nil, pieces_nil]
  | n + 1, m + 1, l, hn, hm => by
    unfold pieces
    by_cases h : l = []
    · rw [if_pos h, if_pos h]
    · rw [if_neg h, if_neg h]
      have := width_pos l h
      rw [pieces_fuel n m (l.drop (decodeL l).2) (by rw [List.length_drop]; omega) (by rw [List.length_drop]; omega)]

theorem pcs_nil : pcs [] = [] := rfl
theorem pcs_step (l : List UInt8) (h : l ≠ []) : pcs l = decodeL l :: pcs (l.drop (decodeL l).2) := by
  unfold pcs
  have h0 : 0 < l.length := by
    cases l with
    | nil => exact absurd rfl h
    | cons _ _ => simp
  obtain ⟨n, hn⟩ : ∃ n, l.length = n + 1 := ⟨l.length - 1, by omega⟩
  have hw := width_pos l h
  rw [hn]
  conv => lhs; unfold pieces
  rw [if_neg h, pieces_fuel n (l.drop (decodeL l).2).length _ (by rw [List.length_drop]; omega) (Nat.le_refl _)]

/-- at a place of a string that is not its end -/
theorem drop_ne (s : ByteArray) (pos : Nat) (h : pos < s.size) : s.data.toList.drop pos ≠ [] := by
  intro e
  have := congrArg List.length e
  rw [List.length_drop, ← Lib.size_eq] at this
  simp at this
  omega
theorem pcs_at (s : ByteArray) (pos : Nat) (h : pos < s.size) : pcs (s.data.toList.drop pos) = Utf8.decode s pos :: pcs (s.data.toList.drop (pos + (Utf8.decode s pos).2)) := by
  rw [pcs_step _ (drop_ne s pos h), decodeL_drop, List.drop_drop]
theorem pcs_end (s : ByteArray) (pos : Nat) (h : ¬ pos < s.size) : pcs (s.data.toList.drop pos) = [] := by
  have : s.data.toList.drop pos = [] := List.drop_eq_nil_of_le (by rw [← Lib.size_eq]; omega)
  rw [this, pcs_nil]
theorem at_width (s : ByteArray) (pos : Nat) (h : pos < s.size) : 1 ≤ (Utf8.decode s pos).2 ∧ pos + (Utf8.decode s pos).2 ≤ s.size := by
  have h1 := width_pos _ (drop_ne s pos h)
  have h2 := decodeL_le _ (drop_ne s pos h)
  rw [decodeL_drop] at h1 h2
  rw [List.length_drop, ← Lib.size_eq] at h2
  omega

/-- what a piece stands for is a rune -/
theorem decode_range (s : ByteArray) (pos : Nat) : (Utf8.decode s pos).1 ≤ 1114111 := by
  unfold Utf8.decode Utf8.valid Utf8.runeError
  simp only
  repeat' split
  all_goals simp_all
  all_goals omega

theorem pieces_length : ∀ (n : Nat) (l : List UInt8), (pieces n l).length ≤ n
  | 0, _ => by simp [pieces]
  | n + 1, l => by
    unfold pieces
    split
    · simp
    · have := pieces_length n (l.drop (decodeL l).2)
      simp only [List.length_cons]
      omega
theorem pcs_length (l : List UInt8) : (pcs l).length ≤ l.length := pieces_length _ _

/-- what the pieces stand for -/
def runes (l : List UInt8) : List Int := (pcs l).map fun p => (p.1 : Int)

theorem runeCountFrom_eq (s : ByteArray) : ∀ fuel pos, s.size ≤ pos + fuel → runeCountFrom s fuel pos = (pcs (s.data.toList.drop pos)).length
  | 0, pos, h => by
    rw [pcs_end s pos (by omega)]
    rfl
  | f + 1, pos, h => by
    unfold runeCountFrom
    by_cases hp : pos < s.size
    · rw [if_pos hp, pcs_at s pos hp, runeCountFrom_eq s f _ (by have := (at_width s pos hp).1; omega)]
      simp only [List.length_cons]
      omega
    · rw [if_neg hp, pcs_end s pos hp]
      rfl
theorem runeCount_eq (s : ByteArray) : runeCount s = (pcs s.data.toList).length := by
  unfold runeCount
  rw [runeCountFrom_eq s s.size 0 (by omega)]
  rfl


/-- where the piece of a number begins; the text's end if there is none -/
def plc : Nat → List UInt8 → Nat
  | 0, _ => 0
  | n + 1, l => if l = [] then 0 else (decodeL l).2 + plc n (l.drop (decodeL l).2)

theorem plc_le : ∀ (n : Nat) (l : List UInt8), plc n l ≤ l.length
  | 0, _ => Nat.zero_le _
  | n + 1, l => by
    unfold plc
    split
    · exact Nat.zero_le _
    · rename_i h
      have h2 := decodeL_le l h
      have := plc_le n (l.drop (decodeL l).2)
      rw [List.length_drop] at this
      omega

theorem le_plc : ∀ (n : Nat) (l : List UInt8), n ≤ (pcs l).length → n ≤ plc n l
  | 0, _, _ => Nat.zero_le _
  | n + 1, l, h => by
    unfold plc
    by_cases hl : l = []
    · rw [hl] at h
      simp [pcs_nil] at h
    · rw [if_neg hl]
      rw [pcs_step l hl, List.length_cons] at h
      have := le_plc n (l.drop (decodeL l).2) (by omega)
      have := width_pos l hl
      omega

theorem plc_succ : ∀ (n : Nat) (l : List UInt8), plc n l < l.length → plc (n + 1) l = plc n l + (decodeL (l.drop (plc n l))).2
  | 0, l, h => by
    have hl : l ≠ [] := by
      intro e
      rw [e] at h
      simp at h
    unfold plc
    rw [if_neg hl]
    simp [plc]
  | n + 1, l, h => by
    by_cases hl : l = []
    · rw [hl] at h
      simp at h
    · have e : plc (n + 1) l = (decodeL l).2 + plc n (l.drop (decodeL l).2) := by
        conv => lhs; unfold plc
        rw [if_neg hl]
      have e2 : plc (n + 1 + 1) l = (decodeL l).2 + plc (n + 1) (l.drop (decodeL l).2) := by
        conv => lhs; unfold plc
        rw [if_neg hl]
      rw [e] at h
      have := plc_succ n (l.drop (decodeL l).2) (by rw [List.length_drop]; omega)
      rw [e2, this, e, List.drop_drop]
      omega

theorem plc_at (s : ByteArray) (n : Nat) (h : plc n s.data.toList < s.size) : plc (n + 1) s.data.toList = plc n s.data.toList + (Utf8.decode s (plc n s.data.toList)).2 := by
  rw [plc_succ n _ (by rw [← Lib.size_eq]; exact h), decodeL_drop]

theorem plc_mono : ∀ (n m : Nat) (l : List UInt8), n ≤ m → plc n l ≤ plc m l
  | 0, _, _, _ => Nat.zero_le _
  | n + 1, 0, _, h => by omega
  | n + 1, m + 1, l, h => by
    unfold plc
    split
    · exact Nat.le_refl _
    · have := plc_mono n m (l.drop (decodeL l).2) (by omega)
      omega

/-- behind all pieces: the end -/
theorem plc_end : ∀ (n : Nat) (l : List UInt8), (pcs l).length ≤ n → plc n l = l.length
  | 0, l, h => by
    by_cases hl : l = []
    · rw [hl]
      rfl
    · rw [pcs_step l hl, List.length_cons] at h
      omega
  | n + 1, l, h => by
    by_cases hl : l = []
    · rw [hl]
      rfl
    · rw [pcs_step l hl, List.length_cons] at h
      unfold plc
      rw [if_neg hl, plc_end n _ (by omega), List.length_drop]
      have := decodeL_le l hl
      omega

/-- the pieces behind some -/
theorem pcs_drop : ∀ (n : Nat) (l : List UInt8), pcs (l.drop (plc n l)) = (pcs l).drop n
  | 0, l => rfl
  | n + 1, l => by
    by_cases hl : l = []
    · rw [hl]
      simp [pcs_nil]
    · have e : plc (n + 1) l = (decodeL l).2 + plc n (l.drop (decodeL l).2) := by
        conv => lhs; unfold plc
        rw [if_neg hl]
      rw [e, pcs_step l hl, ← List.drop_drop, pcs_drop n]
      rfl

/-- behind the last piece of a number there is nothing: the number is that of all -/
theorem plc_size {n : Nat} {l : List UInt8} (h : ¬ plc n l < l.length) : (pcs l).length ≤ n := by
  have e := pcs_drop n l
  have : l.drop (plc n l) = [] := List.drop_eq_nil_of_le (by omega)
  rw [this, pcs_nil] at e
  have := congrArg List.length e
  rw [List.length_drop] at this
  simp at this
  omega

/-- the place of a number that may be below 0; behind all: the end -/
def plcZ (z : Int) (l : List UInt8) : Nat := plc z.toNat l


/-- is a number a rune? -/
def Proper (r : Int) : Prop := (0 ≤ r ∧ r < 55296) ∨ (57343 < r ∧ r ≤ 1114111)

theorem decodeN_proper (n b0 b1 b2 b3 : Nat) : Proper ((decodeN n b0 b1 b2 b3).1 : Int) := by
  unfold Proper
  rcases decodeN_shape n b0 b1 b2 b3 with ⟨c, e⟩ | ⟨c1, c2, c3, cv, e⟩ | ⟨c1, c2, c3, c4, cv, cs, e⟩ | ⟨c1, c2, c3, c4, c5, cv, cw, e⟩ | e
  all_goals rw [e]
  all_goals simp only
  all_goals omega
theorem decode_proper (l : List UInt8) : Proper ((decodeL l).1 : Int) := by
  rw [decodeL_N]
  exact decodeN_proper _ _ _ _ _

theorem byte_back (z : Int) (h0 : 0 ≤ z) (h1 : z < 256) : (z.toNat.toUInt8.toNat : Int) = z := by
  simp only [Nat.toUInt8, UInt8.toNat_ofNat']
  omega

theorem decode_encode (r : Int) (hr : Proper r) (rest : List UInt8) : decodeL (encodeRune r ++ rest) = (r.toNat, (encodeRune r).length) := by
  unfold Proper at hr
  rw [decodeL_N]
  unfold encodeRune
  rcases (show (0 ≤ r ∧ r ≤ 127) ∨ (128 ≤ r ∧ r ≤ 2047) ∨ ((2048 ≤ r ∧ r < 55296) ∨ (57343 < r ∧ r ≤ 65535)) ∨ (65536 ≤ r ∧ r ≤ 1114111) by omega) with h | h | h | h
  · rw [encodeRuneZ_one h.1 h.2]
    have e := byte_back r h.1 (by omega)
    simp only [List.map_cons, List.map_nil, List.cons_append, List.nil_append, List.getD_cons_zero, List.length_cons, List.length_nil]
    unfold decodeN
    rw [if_pos (by omega)]
    exact Prod.ext (by simp only; omega) rfl
  · rw [encodeRuneZ_two h.1 h.2]
    have e0 := byte_back (192 + r / 64) (by omega) (by omega)
    have e1 := byte_back (128 + r % 64) (by omega) (by omega)
    simp only [List.map_cons, List.map_nil, List.cons_append, List.nil_append, List.getD_cons_zero, List.getD_cons_succ, List.length_cons, List.length_nil]
    generalize (192 + r / 64).toNat.toUInt8.toNat = b0 at *
    generalize (128 + r % 64).toNat.toUInt8.toNat = b1 at *
    unfold decodeN
    rw [if_neg (by omega), if_pos (by omega), if_pos (by omega)]
    exact Prod.ext (by simp only; omega) rfl
  · rw [encodeRuneZ_three h]
    have e0 := byte_back (224 + r / 4096) (by omega) (by omega)
    have e1 := byte_back (128 + r / 64 % 64) (by omega) (by omega)
    have e2 := byte_back (128 + r % 64) (by omega) (by omega)
    simp only [List.map_cons, List.map_nil, List.cons_append, List.nil_append, List.getD_cons_zero, List.getD_cons_succ, List.length_cons, List.length_nil]
    generalize (224 + r / 4096).toNat.toUInt8.toNat = b0 at *
    generalize (128 + r / 64 % 64).toNat.toUInt8.toNat = b1 at *
    generalize (128 + r % 64).toNat.toUInt8.toNat = b2 at *
    have ev : ((b0 % 16 * 4096 + b1 % 64 * 64 + b2 % 64 : Nat) : Int) = r := by omega
    unfold decodeN
    rw [if_neg (by omega), if_neg (by omega), if_pos (by omega), if_pos (by omega)]
    exact Prod.ext (by simp only; omega) rfl
  · rw [encodeRuneZ_four h.1 h.2]
    have e0 := byte_back (240 + r / 262144) (by omega) (by omega)
    have e1 := byte_back (128 + r / 4096 % 64) (by omega) (by omega)
    have e2 := byte_back (128 + r / 64 % 64) (by omega) (by omega)
    have e3 := byte_back (128 + r % 64) (by omega) (by omega)
    simp only [List.map_cons, List.map_nil, List.cons_append, List.nil_append, List.getD_cons_zero, List.getD_cons_succ, List.length_cons, List.length_nil]
    generalize (240 + r / 262144).toNat.toUInt8.toNat = b0 at *
    generalize (128 + r / 4096 % 64).toNat.toUInt8.toNat = b1 at *
    generalize (128 + r / 64 % 64).toNat.toUInt8.toNat = b2 at *
    generalize (128 + r % 64).toNat.toUInt8.toNat = b3 at *
    have ev : ((b0 % 8 * 262144 + b1 % 64 * 4096 + b2 % 64 * 64 + b3 % 64 : Nat) : Int) = r := by omega
    unfold decodeN
    rw [if_neg (by omega), if_neg (by omega), if_neg (by omega), if_pos (by omega), if_pos (by omega)]
    exact Prod.ext (by simp only; omega) rfl

theorem encode_ne (r : Int) : encodeRune r ≠ [] := by
  intro e
  have h := (encodeRuneZ_length r).1
  have := congrArg List.length e
  unfold encodeRune at this
  rw [List.length_map] at this
  simp at this
  rw [this] at h
  simp at h

theorem pcs_encode (r : Int) (hr : Proper r) (rest : List UInt8) : pcs (encodeRune r ++ rest) = (r.toNat, (encodeRune r).length) :: pcs rest := by
  rw [pcs_step _ (by simp [encode_ne]), decode_encode r hr]
  simp only [List.drop_left]
theorem pcs_text : ∀ (l : List Int), (∀ r ∈ l, Proper r) → pcs (l.flatMap encodeRune) = l.map fun r => (r.toNat, (encodeRune r).length)
  | [], _ => rfl
  | r :: l, h => by
    rw [List.flatMap_cons, pcs_encode r (h r (by simp)), pcs_text l (fun x hx => h x (by simp [hx]))]
    rfl
theorem runes_text (l : List Int) (h : ∀ r ∈ l, Proper r) : runes (l.flatMap encodeRune) = l := by
  unfold runes
  rw [pcs_text l h, List.map_map]
  refine (List.map_congr_left fun r hr => ?_).trans (List.map_id l)
  have := h r hr
  unfold Proper at this
  show ((r.toNat : Nat) : Int) = r
  omega
theorem pieces_proper : ∀ (n : Nat) (l : List UInt8), ∀ p ∈ pieces n l, Proper (p.1 : Int)
  | 0, _, p, hp => by simp [pieces] at hp
  | n + 1, l, p, hp => by
    unfold pieces at hp
    split at hp
    · simp at hp
    · rcases List.mem_cons.1 hp with rfl | h
      · exact decode_proper l
      · exact pieces_proper n _ p h
theorem runes_proper (l : List UInt8) : ∀ r ∈ runes l, Proper r := by
  intro r hr
  unfold runes at hr
  obtain ⟨p, hp, rfl⟩ := List.mem_map.1 hr
  exact pieces_proper _ _ p hp

/-- has a text no stray byte? -/
def right (l : List UInt8) : Bool := (pcs l).all fun p => !decide (p.1 = 65533 ∧ p.2 = 1)
theorem right_step (l : List UInt8) (h : l ≠ []) : right l = (!decide ((decodeL l).1 = 65533 ∧ (decodeL l).2 = 1) && right (l.drop (decodeL l).2)) := by
  unfold right
  rw [pcs_step l h, List.all_cons]
theorem validGoD_right : ∀ (n : Nat) (l : List UInt8), l.length ≤ n → validGoD n l = right l
  | 0, l, h => by
    have : l = [] := List.eq_nil_of_length_eq_zero (by omega)
    subst this
    rfl
  | n + 1, l, h => by
    by_cases hl : l = []
    · subst hl
      rfl
    · rw [right_step l hl]
      have hw := width_pos l hl
      have ih := validGoD_right n (l.drop (decodeL l).2) (by rw [List.length_drop]; omega)
      unfold validGoD
      rw [if_neg hl, ih]
      by_cases c : (decodeL l).1 = 65533 ∧ (decodeL l).2 = 1
      · rw [if_pos c]
        simp [c]
      · rw [if_neg c]
        simp only [c, decide_false, Bool.not_false, Bool.true_and]
theorem validD_right (l : List UInt8) : validD l = right l := validGoD_right _ l (Nat.le_refl _)

theorem text_runes : ∀ (n : Nat) (l : List UInt8), l.length ≤ n → right l = true → (runes l).flatMap encodeRune = l
  | 0, l, h, _ => by
    have : l = [] := List.eq_nil_of_length_eq_zero (by omega)
    subst this
    rfl
  | n + 1, l, h, hr => by
    by_cases hl : l = []
    · subst hl
      rfl
    · rw [right_step l hl] at hr
      simp only [Bool.and_eq_true, Bool.not_eq_true', decide_eq_false_iff_not] at hr
      have hw := width_pos l hl
      have ih := text_runes n (l.drop (decodeL l).2) (by rw [List.length_drop]; omega) hr.2
      unfold runes at ih ⊢
      rw [pcs_step l hl, List.map_cons, List.flatMap_cons, ih, encode_decode l hl hr.1, List.take_append_drop]

theorem right_text (l : List Int) (h : ∀ r ∈ l, Proper r) : right (l.flatMap encodeRune) = true := by
  unfold right
  rw [pcs_text l h, List.all_map, List.all_eq_true]
  intro r hr
  simp only [Function.comp, Bool.not_eq_true', decide_eq_false_iff_not]
  intro g
  have : r = 65533 := by
    have := h r hr
    unfold Proper at this
    omega
  rw [this] at g
  exact absurd g.2 (by decide)
/-- a text is right just if its runes' text is itself -/
theorem right_iff (l : List UInt8) : right l = decide ((runes l).flatMap encodeRune = l) := by
  by_cases h : right l = true
  · rw [h, text_runes _ l (Nat.le_refl _) h]
    simp
  · have : ¬ (runes l).flatMap encodeRune = l := by
      intro e
      apply h
      rw [← e]
      exact right_text _ (runes_proper l)
    simp [h, this]

end Go.Proofs.YthlmhnlfcnpocaaDoor.Utf
