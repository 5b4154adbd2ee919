/- What is quoted is read again, and what is read is of runes: plain Lean over the program's own answers. -/
import Derived.Test.YtfkianfddjccgaaDoorList
import Derived.Test.YtfkianfddjccgaaDoorEUnquote
import Derived.Test.YtfkianfddjccgaaDoorEQuote
namespace Go.Proofs.YtfkianfddjccgaaDoor.U
open Go.RowKit Go.Proofs.YtfkianfddjccgaaDoorW.PrintWords
set_option linter.unusedSimpArgs false

theorem bt_drop (s : ByteArray) (p j : Nat) (l : List UInt8) (h : s.data.toList.drop p = l) (hj : j < l.length) : bt s ((p + j : Nat) : Int) = ((l.getD j 0).toNat : Int) := by
  have hlt : p + j < s.size := by
    have := congrArg List.length h
    rw [List.length_drop, ← Lib.size_eq] at this
    omega
  rw [← getD_bt s (p + j) hlt, ← h, Lib.getD_dropU]
theorem bt_head (s : ByteArray) (p : Nat) (b : UInt8) (l : List UInt8) (h : s.data.toList.drop p = b :: l) : bt s (p : Int) = (b.toNat : Int) :=
  bt_drop s p 0 _ h (by simp)
theorem drop_lt (s : ByteArray) (p : Nat) (b : UInt8) (l : List UInt8) (h : s.data.toList.drop p = b :: l) : p < s.size := by
  have := congrArg List.length h
  rw [List.length_drop, ← Lib.size_eq] at this
  simp at this
  omega
theorem drop_more (s : ByteArray) (p : Nat) (a b : List UInt8) (h : s.data.toList.drop p = a ++ b) : s.data.toList.drop (p + a.length) = b := by
  rw [← List.drop_drop, h, List.drop_left]
theorem extract_drop (s : ByteArray) (p : Nat) : (s.extract p s.size).data.toList = s.data.toList.drop p := by
  rw [Lib.extract_data, List.take_of_length_le (by rw [List.length_drop, ← Lib.size_eq]; omega)]

/-- a byte below 128 is its own piece -/
theorem decode_small (s : ByteArray) (p : Nat) (b : UInt8) (l : List UInt8) (h : s.data.toList.drop p = b :: l) (hb : b.toNat < 128) : Utf8.decode s p = (b.toNat, 1) := by
  rw [← Lib.decodeL_drop, h, Lib.decodeL_N]
  show Lib.decodeN _ b.toNat _ _ _ = _
  unfold Lib.decodeN
  rw [if_pos hb]
theorem decode_enc (s : ByteArray) (p : Nat) (r : Int) (hr : Utf.Proper r) (l : List UInt8) (h : s.data.toList.drop p = Lib.encodeRune r ++ l) : Utf8.decode s p = (r.toNat, (Lib.encodeRune r).length) := by
  rw [← Lib.decodeL_drop, h, Utf.decode_encode r hr]
/-- what is below 128 is its own byte -/
theorem decode_back (s : ByteArray) (p : Nat) (h : p < s.size) (c : Nat) (hc : c < 128) (hd : (Utf8.decode s p).1 = c) : bt s (p : Int) = (c : Int) ∧ (Utf8.decode s p).2 = 1 := by
  have e := getD_bt s p h
  have key : ∀ n b0 b1 b2 b3 : Nat, (Lib.decodeN n b0 b1 b2 b3).1 = c → b0 = c ∧ (Lib.decodeN n b0 b1 b2 b3).2 = 1 := by
    intro n b0 b1 b2 b3 hd
    rcases Lib.decodeN_shape n b0 b1 b2 b3 with ⟨c1, e1⟩ | ⟨c1, c2, c3, cv, e1⟩ | ⟨c1, c2, c3, c4, cv, cs, e1⟩ | ⟨c1, c2, c3, c4, c5, cv, cw, e1⟩ | e1
    · rw [e1] at hd ⊢
      exact ⟨hd, rfl⟩
    all_goals rw [e1] at hd
    all_goals simp only at hd
    all_goals omega
  rw [Lib.decode_N] at hd ⊢
  obtain ⟨k1, k2⟩ := key _ _ _ _ _ hd
  exact ⟨by rw [← e, k1], k2⟩

theorem unq_quote (s : ByteArray) (f p : Nat) (acc l : List UInt8) (h : s.data.toList.drop p = 34 :: l) : unq s (f + 1) p acc = (⟨acc.toArray⟩, ((p + 1 : Nat) : Int), 0) := by
  unfold unq
  rw [decode_small s p 34 l h (by decide), if_pos (drop_lt s p _ _ h), if_pos (show ((UInt8.toNat 34, 1) : Nat × Nat).1 = 34 from rfl)]
  rfl
theorem unq_plain (s : ByteArray) (f p : Nat) (acc l : List UInt8) (r : Int) (hr : Utf.Proper r) (h : s.data.toList.drop p = Lib.encodeRune r ++ l) (h1 : 32 ≤ r) (h2 : r ≠ 34) (h3 : r ≠ 92) :
    unq s (f + 1) p acc = unq s f (p + (Lib.encodeRune r).length) (acc ++ Lib.encodeRune r) := by
  have hlt : p < s.size := by
    have := congrArg List.length h
    have h0 : 0 < (Lib.encodeRune r).length := List.length_pos_iff.2 (Utf.encode_ne r)
    rw [List.length_drop, ← Lib.size_eq, List.length_append] at this
    omega
  have hc : ((r.toNat : Nat) : Int) = r := Int.toNat_of_nonneg (by omega)
  have hst : ¬ (r.toNat = 65533 ∧ (Lib.encodeRune r).length = 1) := by
    intro g
    have e : r = 65533 := by omega
    rw [e] at g
    exact absurd g.2 (by decide)
  conv => lhs; unfold unq
  rw [decode_enc s p r hr l h, if_pos hlt]
  simp only
  rw [if_neg (show ¬ r.toNat = 34 by omega), if_neg (show ¬ r.toNat < 32 by omega), if_neg hst, if_neg (show ¬ r.toNat = 92 by omega), hc]
theorem unq_esc (s : ByteArray) (f p : Nat) (acc l : List UInt8) (h : s.data.toList.drop p = 92 :: l) (n z : Int) (he : escT (s.extract p s.size) = (n, z, 0)) :
    unq s (f + 1) p acc = unq s f (p + z.toNat) (acc ++ Lib.encodeRune n) := by
  conv => lhs; unfold unq
  rw [decode_small s p 92 l h (by decide), if_pos (drop_lt s p _ _ h), he]
  rfl

def hexA (r : Int) : UInt8 := if r = 127 then 55 else if r < 16 then 48 else 49
def hexB (r : Int) : UInt8 := if r % 16 < 10 then (48 + (r % 16).toNat).toUInt8 else (87 + (r % 16).toNat).toUInt8
theorem hex_small : ∀ n : Fin 128, (n.val < 32 ∨ n.val = 127) → 0 ≤ digitZ ((hexA (n.val : Int)).toNat : Int) ∧ 0 ≤ digitZ ((hexB (n.val : Int)).toNat : Int) ∧ digitZ ((hexA (n.val : Int)).toNat : Int) * 16 + digitZ ((hexB (n.val : Int)).toNat : Int) = (n.val : Int) := by decide +kernel

theorem escT_short (t : ByteArray) (c : UInt8) (l : List UInt8) (r : Int) (ht : t.data.toList = 92 :: c :: l) (hc : c.toNat ≠ 117) (hs : shortZ (c.toNat : Int) = r) (h0 : 0 ≤ r) : escT t = (r, 2, 0) := by
  have b0 : bt t 0 = 92 := bt_drop t 0 0 _ ht (by simp)
  have b1 : bt t 1 = (c.toNat : Int) := bt_drop t 0 1 _ ht (by simp)
  have hz : 2 ≤ t.size := by rw [Lib.size_eq, ht]; simp
  unfold escT numberedZ
  rw [b0, b1, if_neg (by omega), hs]
  unfold escV
  rw [if_pos (by omega), if_pos ⟨hz, rfl, h0⟩]
theorem escT_unit (t : ByteArray) (a b c d : UInt8) (l : List UInt8) (r : Int) (ht : t.data.toList = 92 :: 117 :: a :: b :: c :: d :: l)
    (h1 : 0 ≤ digitZ (a.toNat : Int)) (h2 : 0 ≤ digitZ (b.toNat : Int)) (h3 : 0 ≤ digitZ (c.toNat : Int)) (h4 : 0 ≤ digitZ (d.toNat : Int))
    (hr : ((digitZ (a.toNat : Int) * 16 + digitZ (b.toNat : Int)) * 16 + digitZ (c.toNat : Int)) * 16 + digitZ (d.toNat : Int) = r) : numberedZ t = r := by
  have b0 : bt t 0 = 92 := bt_drop t 0 0 _ ht (by simp)
  have b1 : bt t 1 = 117 := bt_drop t 0 1 _ ht (by simp)
  have b2 : bt t 2 = (a.toNat : Int) := bt_drop t 0 2 _ ht (by simp)
  have b3 : bt t 3 = (b.toNat : Int) := bt_drop t 0 3 _ ht (by simp)
  have b4 : bt t 4 = (c.toNat : Int) := bt_drop t 0 4 _ ht (by simp)
  have b5 : bt t 5 = (d.toNat : Int) := bt_drop t 0 5 _ ht (by simp)
  have hz : 6 ≤ t.size := by rw [Lib.size_eq, ht]; simp
  have hn : numZ t = r := by
    unfold numZ
    rw [b2, b3, b4, b5, if_neg (by omega)]
    show (((0 * 16 + digitZ (bt t 2)) * 16 + digitZ (bt t 3)) * 16 + digitZ (bt t 4)) * 16 + digitZ (bt t 5) = r
    rw [b2, b3, b4, b5]
    omega
  unfold numberedZ
  rw [b0, b1, if_pos ⟨hz, rfl, rfl⟩, hn]
/-- an escape by number that is no half of a pair -/
theorem escT_num (t : ByteArray) (r : Int) (hn : numberedZ t = r) (h0 : 0 ≤ r) (h1 : r < 55296 ∨ 57343 < r) : escT t = (r, 6, 0) := by
  unfold escT
  rw [hn]
  unfold escV
  rw [if_neg (by omega), if_neg (by omega), if_pos (by omega)]

theorem said_hex (r : Int) (h : r < 32 ∨ r = 127) (h1 : r ≠ 34) (h2 : r ≠ 92) (h3 : r ≠ 8) (h4 : r ≠ 12) (h5 : r ≠ 10) (h6 : r ≠ 13) (h7 : r ≠ 9) : saidB r = [92, 117, 48, 48, hexA r, hexB r] := by
  unfold saidB hexA hexB
  rw [if_neg h1, if_neg h2, if_neg h3, if_neg h4, if_neg h5, if_neg h6, if_neg h7, if_pos h]
theorem said_plain_eq (r : Int) (h : ¬ (r < 32 ∨ r = 127)) (h1 : r ≠ 34) (h2 : r ≠ 92) : saidB r = Lib.encodeRune r := by
  unfold saidB
  rw [if_neg h1, if_neg h2, if_neg (by omega), if_neg (by omega), if_neg (by omega), if_neg (by omega), if_neg (by omega), if_neg h]

/-- a rune that is said is read -/
theorem unq_said_one (s : ByteArray) (f p : Nat) (acc l : List UInt8) (r : Int) (hr : Utf.Proper r) (h : s.data.toList.drop p = saidB r ++ l) : unq s (f + 1) p acc = unq s f (p + (saidB r).length) (acc ++ Lib.encodeRune r) := by
  have short : ∀ c : UInt8, saidB r = [92, c] → c.toNat ≠ 117 → shortZ (c.toNat : Int) = r → 0 ≤ r → unq s (f + 1) p acc = unq s f (p + (saidB r).length) (acc ++ Lib.encodeRune r) := by
    intro c e hc hs h0
    rw [e] at h ⊢
    exact unq_esc s f p acc (c :: l) h r 2 (escT_short _ c l r ((extract_drop s p).trans h) hc hs h0)
  by_cases c1 : r = 34
  · subst c1
    exact short 34 rfl (by decide) (by decide) (by decide)
  by_cases c2 : r = 92
  · subst c2
    exact short 92 rfl (by decide) (by decide) (by decide)
  by_cases c3 : r = 8
  · subst c3
    exact short 98 rfl (by decide) (by decide) (by decide)
  by_cases c4 : r = 12
  · subst c4
    exact short 102 rfl (by decide) (by decide) (by decide)
  by_cases c5 : r = 10
  · subst c5
    exact short 110 rfl (by decide) (by decide) (by decide)
  by_cases c6 : r = 13
  · subst c6
    exact short 114 rfl (by decide) (by decide) (by decide)
  by_cases c7 : r = 9
  · subst c7
    exact short 116 rfl (by decide) (by decide) (by decide)
  by_cases c8 : r < 32 ∨ r = 127
  · have e := said_hex r c8 c1 c2 c3 c4 c5 c6 c7
    unfold Utf.Proper at hr
    obtain ⟨n, rfl⟩ : ∃ n : Nat, r = n := ⟨r.toNat, by omega⟩
    have hx := hex_small ⟨n, by omega⟩ (by show n < 32 ∨ n = 127; omega)
    simp only at hx
    rw [e] at h ⊢
    have h' : s.data.toList.drop p = 92 :: (117 :: 48 :: 48 :: hexA (n : Int) :: hexB (n : Int) :: l) := h
    have hn := escT_unit (s.extract p s.size) 48 48 (hexA (n : Int)) (hexB (n : Int)) l (n : Int) ((extract_drop s p).trans h') (by decide) (by decide) hx.1 hx.2.1 (by
      have e0 : digitZ ((48 : UInt8).toNat : Int) = 0 := by decide
      rw [e0]
      omega)
    exact unq_esc s f p acc _ h' (n : Int) 6 (escT_num _ _ hn (by omega) (by omega))
  · have e := said_plain_eq r c8 c1 c2
    rw [e] at h ⊢
    exact unq_plain s f p acc l r hr h (by omega) c1 c2

theorem unq_said (s : ByteArray) : ∀ (rs : List Int) (f p : Nat) (acc l : List UInt8), (∀ r ∈ rs, Utf.Proper r) → s.data.toList.drop p = rs.flatMap saidB ++ 34 :: l → rs.length < f →
    unq s f p acc = (⟨(acc ++ rs.flatMap Lib.encodeRune).toArray⟩, ((p + (rs.flatMap saidB).length + 1 : Nat) : Int), 0)
  | [], f, p, acc, l, _, h, hf => by
    obtain ⟨f, rfl⟩ : ∃ m, f = m + 1 := ⟨f - 1, by omega⟩
    rw [unq_quote s f p acc l h]
    simp
  | r :: rs, f, p, acc, l, hr, h, hf => by
    rw [List.length_cons] at hf
    obtain ⟨f, rfl⟩ : ∃ m, f = m + 1 := ⟨f - 1, by omega⟩
    rw [List.flatMap_cons, List.append_assoc] at h
    rw [unq_said_one s f p acc _ r (hr r (by simp)) h, unq_said s rs f _ _ l (fun x hx => hr x (by simp [hx])) (drop_more s p _ _ h) (by omega)]
    rw [List.flatMap_cons, List.flatMap_cons, List.append_assoc, List.length_append, show p + (saidB r).length + (rs.flatMap saidB).length + 1 = p + ((saidB r).length + (rs.flatMap saidB).length) + 1 by omega]

theorem said_ne (r : Int) : 1 ≤ (saidB r).length := by
  unfold saidB
  repeat' split
  all_goals first | (simp; done) | exact List.length_pos_iff.2 (Utf.encode_ne r)
theorem said_many : ∀ rs : List Int, rs.length ≤ (rs.flatMap saidB).length
  | [] => Nat.le_refl _
  | r :: rs => by
    have := said_many rs
    have := said_ne r
    rw [List.flatMap_cons, List.length_append, List.length_cons]
    omega

/-- the literal of some runes -/
def litB (rs : List Int) : List UInt8 := 34 :: rs.flatMap saidB ++ [34]
theorem unqAt_lit (s : ByteArray) (p : Nat) (rs : List Int) (l : List UInt8) (hr : ∀ r ∈ rs, Utf.Proper r) (h : s.data.toList.drop p = litB rs ++ l) : unqAt s p = (textZ rs, ((p + (litB rs).length : Nat) : Int), 0) := by
  have h' : s.data.toList.drop p = 34 :: (rs.flatMap saidB ++ 34 :: l) := by
    rw [h]
    simp [litB]
  have hlt := drop_lt s p _ _ h'
  have hz : (rs.flatMap saidB).length < s.size := by
    have := congrArg List.length h'
    rw [List.length_drop, ← Lib.size_eq, List.length_cons, List.length_append] at this
    omega
  have h2 := drop_more s p [34] _ h'
  have hm := said_many rs
  unfold unqAt
  rw [if_neg (by omega), bt_head s p _ _ h', if_neg (by decide), Int.toNat_natCast, unq_said s rs s.size (p + 1) [] l hr h2 (by omega)]
  have : (litB rs).length = (rs.flatMap saidB).length + 2 := by simp [litB]
  rw [this, List.nil_append]
  unfold textZ
  rw [show p + 1 + (rs.flatMap saidB).length + 1 = p + ((rs.flatMap saidB).length + 2) by omega]

theorem escV_proper (n m c0 sh : Int) (z : Nat) (hn0 : -1 ≤ n) (hn1 : n < 65536) (hm1 : m < 65536) (hs : sh ≤ 92) : (escV n m c0 sh z).2.2 = 0 → Utf.Proper (escV n m c0 sh z).1 := by
  unfold escV Utf.Proper
  repeat' split
  all_goals intro h
  all_goals simp at h ⊢
  all_goals omega
theorem escT_proper (t : ByteArray) : (escT t).2.2 = 0 → Utf.Proper (escT t).1 := by
  have h1 := numberedZ_range t
  have h2 := numberedZ_range (t.extract 6 t.size)
  have h3 := shortZ_range (bt t 1)
  exact escV_proper _ _ _ _ _ h1.1 h1.2.1 h2.2.1 h3.2
theorem decodeS_proper (s : ByteArray) (p : Nat) : Utf.Proper ((Utf8.decode s p).1 : Int) := by
  rw [← Lib.decodeL_drop]
  exact Utf.decode_proper _

/-- what is read is of runes, and ends with a quote; an error comes with the empty text -/
theorem unq_shape (s : ByteArray) : ∀ (f p : Nat) (rs : List Int), (∀ r ∈ rs, Utf.Proper r) →
    ((unq s f p (rs.flatMap Lib.encodeRune)).2.2 ≠ 0 ∧ (unq s f p (rs.flatMap Lib.encodeRune)).1 = ByteArray.empty) ∨
    ∃ (qs : List Int) (q : Nat), (∀ r ∈ qs, Utf.Proper r) ∧ unq s f p (rs.flatMap Lib.encodeRune) = (textZ qs, ((q + 1 : Nat) : Int), 0) ∧ q < s.size ∧ bt s (q : Int) = 34 ∧ qs.length + p ≤ rs.length + q
  | 0, p, rs, _ => by
    left
    unfold unq
    exact ⟨by simp, rfl⟩
  | f + 1, p, rs, hr => by
    have snoc : ∀ (r : Int), Utf.Proper r → ∀ x ∈ rs ++ [r], Utf.Proper x := by
      intro r h x hx
      rcases List.mem_append.1 hx with g | g
      · exact hr x g
      · rw [List.mem_singleton.1 g]
        exact h
    have flat : ∀ r : Int, rs.flatMap Lib.encodeRune ++ Lib.encodeRune r = (rs ++ [r]).flatMap Lib.encodeRune := by
      intro r
      simp
    unfold unq
    by_cases c0 : p < s.size
    · rw [if_pos c0]
      by_cases c1 : (Utf8.decode s p).1 = 34
      · rw [if_pos c1]
        right
        exact ⟨rs, p, hr, rfl, c0, (decode_back s p c0 34 (by decide) c1).1, Nat.le_refl _⟩
      · rw [if_neg c1]
        by_cases c2 : (Utf8.decode s p).1 < 32
        · rw [if_pos c2]
          left
          exact ⟨by simp, rfl⟩
        · rw [if_neg c2]
          by_cases c3 : (Utf8.decode s p).1 = 65533 ∧ (Utf8.decode s p).2 = 1
          · rw [if_pos c3]
            left
            exact ⟨by simp, rfl⟩
          · rw [if_neg c3]
            by_cases c4 : (Utf8.decode s p).1 = 92
            · rw [if_pos c4]
              by_cases c5 : (escT (s.extract p s.size)).2.2 = 0
              · rw [if_pos c5, flat]
                have her := (escT_range _ c5).2.2.1
                rcases unq_shape s f (p + (escT (s.extract p s.size)).2.1.toNat) _ (snoc _ (escT_proper _ c5)) with h | ⟨qs, q, g1, g2, g3, g4, g5⟩
                · exact Or.inl h
                · rw [List.length_append, List.length_cons, List.length_nil] at g5
                  exact Or.inr ⟨qs, q, g1, g2, g3, g4, by omega⟩
              · rw [if_neg c5]
                left
                exact ⟨c5, rfl⟩
            · rw [if_neg c4, flat]
              have hwd := (Utf.at_width s p c0).1
              rcases unq_shape s f (p + (Utf8.decode s p).2) _ (snoc _ (decodeS_proper s p)) with h | ⟨qs, q, g1, g2, g3, g4, g5⟩
              · exact Or.inl h
              · rw [List.length_append, List.length_cons, List.length_nil] at g5
                exact Or.inr ⟨qs, q, g1, g2, g3, g4, by omega⟩
    · rw [if_neg c0]
      left
      exact ⟨by simp, rfl⟩
theorem unqAt_shape (s : ByteArray) (a : Int) : ((unqAt s a).2.2 ≠ 0 ∧ (unqAt s a).1 = ByteArray.empty) ∨
    ∃ (qs : List Int) (q : Nat), (∀ r ∈ qs, Utf.Proper r) ∧ unqAt s a = (textZ qs, ((q + 1 : Nat) : Int), 0) ∧ q < s.size ∧ bt s (q : Int) = 34 ∧ qs.length ≤ q := by
  unfold unqAt
  split
  · left
    exact ⟨by simp, rfl⟩
  · split
    · left
      exact ⟨by simp, rfl⟩
    · rcases unq_shape s s.size (a.toNat + 1) [] (by simp) with h | ⟨qs, q, g1, g2, g3, g4, g5⟩
      · exact Or.inl h
      · rw [List.length_nil] at g5
        exact Or.inr ⟨qs, q, g1, g2, g3, g4, by omega⟩

end Go.Proofs.YtfkianfddjccgaaDoor.U
