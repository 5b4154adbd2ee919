/- Plain law: what Quote writes is read as the text's runes, wherever it stands; it is right, and has no byte below 20. -/
import Derived.Test.YtfkianfddjccgaaDoorUL3x7
import Derived.Test.YtfkianfddjccgaaDoorPUtfOne
namespace Go.Proofs.YtfkianfddjccgaaDoor.U
open Go.RowKit Go.Proofs.YtfkianfddjccgaaDoorW.PrintWords
set_option linter.unusedSimpArgs false

theorem byte_of (n : Nat) (h : n < 256) : (n.toUInt8).toNat = n := by
  simp only [Nat.toUInt8, UInt8.toNat_ofNat']
  omega
theorem enc_high (r : Int) (hr : Utf.Proper r) (h : 128 ≤ r) : ∀ b ∈ Lib.encodeRune r, 128 ≤ b.toNat := by
  unfold Utf.Proper at hr
  have key : ∀ x ∈ Lib.encodeRuneZ r, 128 ≤ x ∧ x < 256 := by
    rcases (show (128 ≤ r ∧ r ≤ 2047) ∨ ((2048 ≤ r ∧ r < 55296) ∨ (57343 < r ∧ r ≤ 65535)) ∨ (65536 ≤ r ∧ r ≤ 1114111) by omega) with g | g | g
    · rw [Lib.encodeRuneZ_two g.1 g.2]
      simp only [List.mem_cons, List.not_mem_nil, or_false]
      rintro x (rfl | rfl) <;> omega
    · rw [Lib.encodeRuneZ_three g]
      simp only [List.mem_cons, List.not_mem_nil, or_false]
      rintro x (rfl | rfl | rfl) <;> omega
    · rw [Lib.encodeRuneZ_four g.1 g.2]
      simp only [List.mem_cons, List.not_mem_nil, or_false]
      rintro x (rfl | rfl | rfl | rfl) <;> omega
  intro b hb
  unfold Lib.encodeRune at hb
  obtain ⟨x, hx, rfl⟩ := List.mem_map.1 hb
  have := key x hx
  rw [byte_of _ (by omega)]
  omega
theorem enc_low (r : Int) (h0 : 0 ≤ r) (h1 : r ≤ 127) : Lib.encodeRune r = [r.toNat.toUInt8] := by
  unfold Lib.encodeRune
  rw [Lib.encodeRuneZ_one h0 h1]
  rfl

/-- the bytes of a literal: none below 20, none 7F -/
def fineB (b : UInt8) : Prop := 32 ≤ b.toNat ∧ b.toNat ≠ 127
theorem hex_fine : ∀ n : Fin 128, (n.val < 32 ∨ n.val = 127) → (32 ≤ (hexA (n.val : Int)).toNat ∧ (hexA (n.val : Int)).toNat < 127) ∧ (32 ≤ (hexB (n.val : Int)).toNat ∧ (hexB (n.val : Int)).toNat < 127) := by decide +kernel
theorem said_fine (r : Int) (hr : Utf.Proper r) : ∀ b ∈ saidB r, fineB b := by
  have hr' := hr
  unfold Utf.Proper at hr
  by_cases c : r = 34 ∨ r = 92 ∨ r = 8 ∨ r = 12 ∨ r = 10 ∨ r = 13 ∨ r = 9
  · rcases c with rfl | rfl | rfl | rfl | rfl | rfl | rfl
    all_goals
      intro b hb
      unfold saidB at hb
      simp at hb
      unfold fineB
    · rcases hb with rfl | rfl <;> decide
    · subst hb
      decide
    all_goals rcases hb with rfl | rfl <;> decide
  · by_cases c8 : r < 32 ∨ r = 127
    · rw [said_hex r c8 (by omega) (by omega) (by omega) (by omega) (by omega) (by omega) (by omega)]
      obtain ⟨n, rfl⟩ : ∃ n : Nat, r = n := ⟨r.toNat, by omega⟩
      have hx := hex_fine ⟨n, by omega⟩ (by show n < 32 ∨ n = 127; omega)
      simp only at hx
      intro b hb
      simp only [List.mem_cons, List.not_mem_nil, or_false] at hb
      unfold fineB
      rcases hb with rfl | rfl | rfl | rfl | rfl | rfl
      · decide
      · decide
      · decide
      · decide
      · omega
      · omega
    · rw [said_plain_eq r c8 (by omega) (by omega)]
      by_cases c9 : r ≤ 127
      · rw [enc_low r (by omega) c9]
        intro b hb
        rw [List.mem_singleton.1 hb]
        unfold fineB
        rw [byte_of _ (by omega)]
        omega
      · intro b hb
        have := enc_high r hr' (by omega) b hb
        unfold fineB
        omega
theorem lit_fine (rs : List Int) (hp : ∀ r ∈ rs, Utf.Proper r) : ∀ b ∈ litB rs, fineB b := by
  intro b hb
  unfold litB at hb
  rw [List.mem_append, List.mem_cons, List.mem_flatMap, List.mem_singleton] at hb
  rcases hb with (rfl | ⟨r, hr, hb⟩) | rfl
  · unfold fineB
    decide
  · exact said_fine r (hp r hr) b hb
  · unfold fineB
    decide

/-- small bytes are a right text -/
theorem small_right : ∀ (l m : List UInt8), (∀ b ∈ l, b.toNat < 128) → Utf.right (l ++ m) = Utf.right m
  | [], _, _ => rfl
  | b :: l, m, h => by
    have hb := h b (by simp)
    have hd : Lib.decodeL (b :: (l ++ m)) = (b.toNat, 1) := by
      rw [Lib.decodeL_N]
      show Lib.decodeN _ b.toNat _ _ _ = _
      unfold Lib.decodeN
      rw [if_pos hb]
    rw [List.cons_append, Utf.right_step _ (by simp), hd]
    have : decide (b.toNat = 65533 ∧ (1 : Nat) = 1) = false := decide_eq_false (by omega)
    show (!decide (b.toNat = 65533 ∧ (1 : Nat) = 1) && Utf.right (l ++ m)) = _
    rw [this]
    exact small_right l m (fun x hx => h x (by simp [hx]))
theorem said_small (r : Int) (hr : Utf.Proper r) : saidB r = Lib.encodeRune r ∨ ∀ b ∈ saidB r, b.toNat < 128 := by
  unfold Utf.Proper at hr
  by_cases c : r = 34 ∨ r = 92 ∨ r = 8 ∨ r = 12 ∨ r = 10 ∨ r = 13 ∨ r = 9
  · right
    rcases c with rfl | rfl | rfl | rfl | rfl | rfl | rfl
    all_goals
      intro b hb
      unfold saidB at hb
      simp at hb
    · rcases hb with rfl | rfl <;> decide
    · subst hb
      decide
    all_goals rcases hb with rfl | rfl <;> decide
  · by_cases c8 : r < 32 ∨ r = 127
    · right
      rw [said_hex r c8 (by omega) (by omega) (by omega) (by omega) (by omega) (by omega) (by omega)]
      obtain ⟨n, rfl⟩ : ∃ n : Nat, r = n := ⟨r.toNat, by omega⟩
      have hx := hex_fine ⟨n, by omega⟩ (by show n < 32 ∨ n = 127; omega)
      simp only at hx
      intro b hb
      simp only [List.mem_cons, List.not_mem_nil, or_false] at hb
      rcases hb with rfl | rfl | rfl | rfl | rfl | rfl
      · decide
      · decide
      · decide
      · decide
      · omega
      · omega
    · left
      exact said_plain_eq r c8 (by omega) (by omega)
theorem enc_right (r : Int) (hr : Utf.Proper r) (m : List UInt8) : Utf.right (Lib.encodeRune r ++ m) = Utf.right m := by
  have e := Utf.pcs_encode r hr m
  unfold Utf.right
  rw [e, List.all_cons]
  have : decide (r.toNat = 65533 ∧ (Lib.encodeRune r).length = 1) = false := by
    apply decide_eq_false
    intro g
    have e : r = 65533 := by
      unfold Utf.Proper at hr
      omega
    rw [e] at g
    exact absurd g.2 (by decide)
  simp only [this, Bool.not_false, Bool.true_and]
theorem saids_right : ∀ (rs : List Int) (m : List UInt8), (∀ r ∈ rs, Utf.Proper r) → Utf.right (rs.flatMap saidB ++ m) = Utf.right m
  | [], _, _ => rfl
  | r :: rs, m, hp => by
    have ih := saids_right rs m (fun x hx => hp x (by simp [hx]))
    rw [List.flatMap_cons, List.append_assoc]
    rcases said_small r (hp r (by simp)) with h | h
    · rw [h, enc_right r (hp r (by simp)), ih]
    · rw [small_right _ _ h, ih]
theorem lit_right (rs : List Int) (hp : ∀ r ∈ rs, Utf.Proper r) : Utf.right (litB rs) = true := by
  have h1 := small_right [34] (rs.flatMap saidB ++ [34]) (by simp)
  have h2 := saids_right rs [34] hp
  have h3 := small_right [34] [] (by simp)
  unfold litB
  rw [List.cons_append]
  rw [List.append_nil] at h3
  exact h1.trans (h2.trans (h3.trans rfl))

theorem literal_loop (q : ByteArray) (hq : q.size ≤ 140737488351232) (h : ∀ b ∈ q.data.toList, fineB b) : ∀ (n i k : Nat), i + n = q.size → n < k → hallmarklaw02_UtfLiteral.l0 k q i = some true
  | 0, i, k, hi, hk => by
    obtain ⟨k, rfl⟩ : ∃ m, k = m + 1 := ⟨k - 1, by omega⟩
    simp only [hallmarklaw02_UtfLiteral.l0]
    rw [if_neg (by omega)]
  | n + 1, i, k, hi, hk => by
    obtain ⟨k, rfl⟩ : ∃ m, k = m + 1 := ⟨k - 1, by omega⟩
    have hlt : i < q.size := by omega
    have hlt' : i < q.data.toList.length := by rw [← Lib.size_eq]; exact hlt
    have hb : bt q (i : Int) = ((q.data.toList[i]).toNat : Int) := by
      rw [← getD_bt q i hlt, List.getD_eq_getElem?_getD, List.getElem?_eq_getElem hlt']
      rfl
    have hf := h _ (List.getElem_mem hlt')
    unfold fineB at hf
    have hw : wrap64 ((i : Int) + 1) = ((i + 1 : Nat) : Int) := by unfold wrap64; omega
    have ih := literal_loop q hq h n (i + 1) k (by omega) (by omega)
    simp only [hallmarklaw02_UtfLiteral.l0]
    rw [if_pos (by omega), if_pos (by omega), hb, if_neg (by omega), if_neg (by omega), hw]
    exact ih

theorem pure_UtfLiteral (a0 a1 a2 : ByteArray) (h0 : a0.size ≤ 1048576) (h1 : a1.size ≤ 1048576) (h2 : a2.size ≤ 1048576) : ∃ k, hallmarklaw02_UtfLiteral.f k a0 a1 a2 = some true := by
  refine ⟨6 * a0.size + 20, ?_⟩
  have hp := Utf.runes_proper a0.data.toList
  have hrl := runes_length a0
  have e2 : utf_Runes.f a0 = some (Utf.runes a0.data.toList) := if_pos (by omega)
  have e1 : utf_Quote.f a0 = some ⟨(litB (Utf.runes a0.data.toList)).toArray⟩ := if_pos (by omega)
  obtain ⟨rs, hrs⟩ : ∃ rs, Utf.runes a0.data.toList = rs := ⟨_, rfl⟩
  rw [hrs] at hp hrl e1 e2
  have ht := textZ_size rs
  have hll := lit_length rs
  have e3 : utf_Text.f rs = some (textZ rs) := if_pos (by omega)
  obtain ⟨q, hq⟩ : ∃ q : ByteArray, (⟨(litB rs).toArray⟩ : ByteArray) = q := ⟨_, rfl⟩
  have hqd : q.data.toList = litB rs := by rw [← hq]
  have hqs : q.size = (litB rs).length := by rw [Lib.size_eq, hqd]
  rw [hq] at e1
  have e4 : utf_Unquote.f ((a1 ++ q) ++ a2) (a1.size : Int) = some (textZ rs, ((a1.size + q.size : Nat) : Int), 0) := by
    have hd : ((a1 ++ q) ++ a2).data.toList.drop a1.size = litB rs ++ a2.data.toList := by
      have : ((a1 ++ q) ++ a2).data.toList = a1.data.toList ++ (litB rs ++ a2.data.toList) := by
        rw [ByteArray.data_append, Array.toList_append, ByteArray.data_append, Array.toList_append, hqd, List.append_assoc]
      rw [this, Lib.size_eq, List.drop_left]
    have := unqAt_lit ((a1 ++ q) ++ a2) a1.size rs a2.data.toList hp hd
    unfold utf_Unquote.f
    rw [if_pos (by rw [ByteArray.size_append, ByteArray.size_append]; omega), this, hqs]
  have e5 : utf_Valid.f q = some true := by
    unfold utf_Valid.f
    rw [if_pos (by omega), hqd, Utf.validD_right, lit_right rs hp]
  have e6 : utf_Quote.f (textZ rs) = some q := by
    rw [quote_textZ rs hp (by omega), hq]
  have hw : ((a1.size + q.size : Nat) : Int) = (a1.size : Int) + (q.size : Int) := by omega
  have hl := literal_loop q (by omega) (by rw [hqd]; exact lit_fine rs hp) q.size 0 (6 * a0.size + 19) (by omega) (by omega)
  unfold hallmarklaw02_UtfLiteral.f
  rw [fixed_at _ (by omega), e1, e2]
  simp only [Option.bind_some, if_true, e3]
  rw [if_pos (by omega), if_pos (by omega), e4]
  simp only [Option.bind_some, hw, if_true, e5, e6, bne_self_eq_false]
  simp only [hallmarklaw02_UtfLiteral.j0, Bool.false_eq_true, if_false]
  exact hl

end Go.Proofs.YtfkianfddjccgaaDoor.U
