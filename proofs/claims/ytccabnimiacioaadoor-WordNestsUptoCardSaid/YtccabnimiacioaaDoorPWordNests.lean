/- Plain law: Begins, Mids and Ends are set like brackets, and tokens stand one behind the other. -/
import Derived.Test.YtccabnimiacioaaDoorUL3x2
import Derived.Test.YtccabnimiacioaaDoorPWordKnown
namespace Go.Proofs.YtccabnimiacioaaDoor.U
open Go.RowKit Go.Proofs.YtccabnimiacioaaDoorW.PrintWords
set_option linter.unusedSimpArgs false
set_option linter.unusedVariables false

/-- what the law looks at, token by token -/
def nestsB (z : Int) : List Tok → Int → Int → Bool
  | [], _, o => o == 0
  | t :: l, a, o =>
    if t.f1 < a ∨ t.f2 ≤ t.f1 ∨ t.f2 > z then false
    else if (t.f0 = 8 ∨ t.f0 = 9) ∧ (if t.f0 = 7 then o + 1 else o) = 0 then false
    else nestsB z l t.f2 (if t.f0 = 9 then (if t.f0 = 7 then o + 1 else o) - 1 else (if t.f0 = 7 then o + 1 else o))

theorem rd_tok (l : List Tok) (i : Nat) (h : i < l.length) : rd_T23 l (i : Int) = l[i] := by
  unfold rd_T23
  rw [Int.toNat_natCast, List.getD_eq_getElem?_getD, List.getElem?_eq_getElem h]
  rfl

theorem nests_loop (s : ByteArray) (L : List Tok) (hL : L.length ≤ 2147483648) : ∀ (n i k : Nat) (o a : Int), i + n = L.length → 4 * n < k → -(i : Int) ≤ o → o ≤ i → hallmarklaw16_WordNests.l0 k s L o a i = some (nestsB s.size (L.drop i) a o)
  | 0, i, k, o, a, hi, hk, h0, h1 => by
    obtain ⟨k, rfl⟩ : ∃ m, k = m + 1 := ⟨k - 1, by omega⟩
    rw [hallmarklaw16_WordNests.l0, if_neg (by omega), List.drop_eq_nil_of_le (by omega)]
    rfl
  | n + 1, i, k, o, a, hi, hk, h0, h1 => by
    obtain ⟨k, rfl⟩ : ∃ m, k = m + 4 := ⟨k - 4, by omega⟩
    have hlt : i < L.length := by omega
    have hd : L.drop i = L[i] :: L.drop (i + 1) := List.drop_eq_getElem_cons hlt
    have hr := rd_tok L i hlt
    have c0 : (0 : Int) ≤ (i : Int) := by omega
    have c1 : (i : Int) < (L.length : Int) := by omega
    have hw : wrap64 ((i : Int) + 1) = ((i + 1 : Nat) : Int) := by unfold wrap64; omega
    have hwo : wrap64 (o + 1) = o + 1 := by unfold wrap64; omega
    obtain ⟨t, ht⟩ : ∃ t, L[i] = t := ⟨_, rfl⟩
    rw [ht] at hr hd
    rw [hd]
    unfold nestsB
    rw [hallmarklaw16_WordNests.l0, if_pos c1, if_pos c0, hr]
    have bad : hallmarklaw16_WordNests.j1 (k + 3) s L o i true = some false := by
      rw [hallmarklaw16_WordNests.j1, if_pos rfl]
    by_cases d0 : t.f1 < a
    · rw [if_pos d0, if_pos (Or.inl d0)]
      exact bad
    rw [if_neg d0]
    by_cases d1 : t.f2 ≤ t.f1
    · rw [if_pos d1, if_pos (Or.inr (Or.inl d1))]
      exact bad
    rw [if_neg d1]
    by_cases d2 : t.f2 > (s.size : Int)
    · rw [decide_eq_true d2, if_pos (Or.inr (Or.inr d2))]
      exact bad
    rw [decide_eq_false d2, if_neg (by omega), hallmarklaw16_WordNests.j1, if_neg (by decide), if_pos c0, if_pos c1, hr]
    -- behind the count of what is open
    have rest : ∀ o' : Int, (if t.f0 = 7 then o + 1 else o) = o' → hallmarklaw16_WordNests.j2 (k + 2) s L o' t.f2 i = some (if (t.f0 = 8 ∨ t.f0 = 9) ∧ o' = 0 then false else nestsB s.size (L.drop (i + 1)) t.f2 (if t.f0 = 9 then o' - 1 else o')) := by
      intro o' ho
      have hb : -(i : Int) ≤ o' ∧ o' ≤ (i : Int) + 1 := by
        rw [← ho]
        split <;> omega
      have hw9 : wrap64 (o' - 1) = o' - 1 := by unfold wrap64; omega
      have last : hallmarklaw16_WordNests.j3 (k + 1) s L o' t.f2 i false = some (nestsB s.size (L.drop (i + 1)) t.f2 (if t.f0 = 9 then o' - 1 else o')) := by
        rw [hallmarklaw16_WordNests.j3, if_neg (by decide), if_pos c0, if_pos c1, hr]
        by_cases e9 : t.f0 = 9
        · rw [if_pos e9, if_pos e9, hw9, hw]
          exact nests_loop s L hL n (i + 1) k (o' - 1) t.f2 (by omega) (by omega) (by omega) (by omega)
        · rw [if_neg e9, if_neg e9, hw]
          exact nests_loop s L hL n (i + 1) k o' t.f2 (by omega) (by omega) (by omega) (by omega)
      have stop : hallmarklaw16_WordNests.j3 (k + 1) s L o' t.f2 i true = some false := by
        rw [hallmarklaw16_WordNests.j3, if_pos rfl]
      rw [hallmarklaw16_WordNests.j2, if_pos c0, if_pos c1, hr]
      by_cases e8 : t.f0 = 8
      · rw [if_pos e8]
        by_cases z : o' = 0
        · rw [if_pos ⟨Or.inl e8, z⟩, beq_iff_eq.2 z]
          exact stop
        · rw [if_neg (fun g => z g.2), beq_eq_false_iff_ne.2 z]
          exact last
      · rw [if_neg e8]
        by_cases e9 : t.f0 = 9
        · rw [if_pos e9]
          by_cases z : o' = 0
          · rw [if_pos ⟨Or.inr e9, z⟩, beq_iff_eq.2 z]
            exact stop
          · rw [if_neg (fun g => z g.2), beq_eq_false_iff_ne.2 z]
            exact last
        · rw [if_neg e9, if_neg (fun g => by omega)]
          exact last
    by_cases e7 : t.f0 = 7
    · rw [if_pos e7, hwo]
      have := rest (o + 1) (if_pos e7)
      rw [if_pos e7]
      exact this
    · rw [if_neg e7]
      have := rest o (if_neg e7)
      rw [if_neg e7]
      exact this

/-- how a token turns the count of what is open -/
def Nest (op : List Int) (r : OneR) : Prop := r.e = 0 → (r.kind = 7 → r.op.length = op.length + 1) ∧ (r.kind = 8 → r.op.length = op.length ∧ 1 ≤ op.length) ∧ (r.kind = 9 → r.op.length + 1 = op.length) ∧ (r.kind ≠ 7 → r.kind ≠ 8 → r.kind ≠ 9 → r.op.length = op.length)
theorem nest_same (op op' : List Int) (e : Int) (p : Nat) (k : Int) (t : ByteArray) (hl : op'.length = op.length) (h7 : k ≠ 7) (h8 : k ≠ 8) (h9 : k ≠ 9) : Nest op ⟨e, p, k, t, op'⟩ :=
  fun _ => ⟨fun h => absurd h h7, fun h => absurd h h8, fun h => absurd h h9, fun _ _ _ => hl⟩
theorem nest_piece6 (s : ByteArray) (op : List Int) (r : Int × Nat × Bool × List UInt8) : Nest op (pieceR 6 7 op (op ++ [0]) r) := by
  intro _
  obtain ⟨e, p, w, l⟩ := r
  unfold pieceR
  cases w <;> simp
theorem nest_piece9 (s : ByteArray) (op : List Int) (hop : op ≠ []) (r : Int × Nat × Bool × List UInt8) : Nest op (pieceR 9 8 op.dropLast op r) := by
  intro _
  have := List.length_pos_iff.2 hop
  obtain ⟨e, p, w, l⟩ := r
  unfold pieceR
  cases w
  · simp
    omega
  · simp
    omega
theorem nest_mark (s : ByteArray) (i : Nat) (op : List Int) : Nest op (markR s i op) := by
  unfold markR
  split
  · exact nest_same _ _ _ _ _ _ rfl (by decide) (by decide) (by decide)
  · split
    · exact nest_same _ _ _ _ _ _ rfl (by decide) (by decide) (by decide)
    · rename_i h
      split
      · exact nest_same _ _ _ _ _ _ (by rw [List.length_set]) (by decide) (by decide) (by decide)
      · split
        · split
          · exact nest_piece9 s op (fun e => h (Or.inl e)) _
          · exact nest_same _ _ _ _ _ _ (by rw [List.length_set]) (by decide) (by decide) (by decide)
        · exact nest_same _ _ _ _ _ _ rfl (by decide) (by decide) (by decide)
theorem nest_one (s : ByteArray) (i : Nat) (op : List Int) : Nest op (oneR s i op) := by
  unfold oneR
  split
  · exact nest_piece6 s op _
  · split
    · split
      · exact nest_same _ _ _ _ _ _ rfl (by decide) (by decide) (by decide)
      · exact nest_same _ _ _ _ _ _ rfl (by decide) (by decide) (by decide)
    · split
      · split
        · exact nest_same _ _ _ _ _ _ rfl (by decide) (by decide) (by decide)
        · split
          · exact nest_same _ _ _ _ _ _ rfl (by decide) (by decide) (by decide)
          · exact nest_same _ _ _ _ _ _ rfl (by decide) (by decide) (by decide)
      · split
        · split
          · exact nest_same _ _ _ _ _ _ rfl (by decide) (by decide) (by decide)
          · exact nest_same _ _ _ _ _ _ rfl (by decide) (by decide) (by decide)
        · exact nest_mark s i op

theorem scan_nests (s : ByteArray) (hs : s.size ≤ 1073741824) : ∀ (f i : Nat) (toks : List Tok) (op : List Int), i ≤ s.size → Fits op i → s.size < i + f →
    ((scanZ s f i toks op).2.1 ≠ 0 ∧ (scanZ s f i toks op).1 = []) ∨ ((scanZ s f i toks op).2.1 = 0 ∧ (scanZ s f i toks op).2.2 = 0 ∧ ∃ new, (scanZ s f i toks op).1 = toks ++ new ∧ new.length + i ≤ s.size ∧ ∀ a : Int, a ≤ i → nestsB s.size new a op.length = true)
  | 0, i, toks, op, hi, _, hf => by omega
  | f + 1, i, toks, op, hi, hF, hf => by
    unfold scanZ
    by_cases hp : i < s.size
    · rw [if_pos hp]
      have hok := oneR_range s i op hp hs hF
      have hn := nest_one s i op
      obtain ⟨r, hr⟩ : ∃ r, oneR s i op = r := ⟨_, rfl⟩
      rw [hr] at hok hn ⊢
      by_cases he : r.e = 0
      · rw [if_pos he]
        obtain ⟨o1, o2, o3⟩ := hok he
        obtain ⟨n7, n8, n9, nn⟩ := hn he
        have hb := skipZ_bounds s (s.size + 1 - r.pos) r.pos o2
        rcases scan_nests s hs f _ (toks ++ [⟨r.kind, i, r.pos, r.text⟩]) r.op hb.2 (o3.mono hb.1) (by omega) with h | ⟨h1, h2, new, h3, h4, h5⟩
        · exact Or.inl h
        · refine Or.inr ⟨h1, h2, ⟨r.kind, i, r.pos, r.text⟩ :: new, by rw [h3]; simp, by rw [List.length_cons]; omega, ?_⟩
          intro a ha
          unfold nestsB
          simp only
          rw [if_neg (by omega)]
          have h5' := h5 (r.pos : Int) (by omega)
          by_cases k7 : r.kind = 7
          · have := n7 k7
            rw [if_pos k7, if_neg (by omega), if_neg (by omega)]
            rw [this] at h5'
            exact h5'
          · rw [if_neg k7]
            by_cases k9 : r.kind = 9
            · have := n9 k9
              rw [if_neg (by omega), if_pos k9]
              have e : (op.length : Int) - 1 = (r.op.length : Int) := by omega
              rw [e]
              exact h5'
            · rw [if_neg k9]
              by_cases k8 : r.kind = 8
              · have := n8 k8
                rw [if_neg (by omega), ← this.1]
                exact h5'
              · rw [if_neg (by omega), ← nn k7 k8 k9]
                exact h5'
      · rw [if_neg he]
        exact Or.inl ⟨he, rfl⟩
    · rw [if_neg hp]
      by_cases ho : op = []
      · rw [if_pos ho]
        refine Or.inr ⟨rfl, rfl, [], by simp, by simp; omega, ?_⟩
        intro a _
        rw [ho]
        rfl
      · rw [if_neg ho]
        exact Or.inl ⟨by show (21 : Int) ≠ 0; decide, rfl⟩

theorem pure_WordNests (a0 : ByteArray) (h0 : a0.size ≤ 1048576) : ∃ k, hallmarklaw16_WordNests.f k a0 = some true := by
  refine ⟨4 * a0.size + 30, ?_⟩
  have hb := skipZ_bounds a0 (a0.size + 1) 0 (Nat.zero_le _)
  have hsc : word_Scan.f a0 = some (scanR a0) := if_pos (by omega)
  have hn := scan_nests a0 (by omega) (a0.size + 1) (skipZ a0 (a0.size + 1) 0) [] [] hb.2 ⟨Nat.zero_le _, fun y hy => absurd hy List.not_mem_nil⟩ (by omega)
  unfold hallmarklaw16_WordNests.f
  rw [known_at _ (by omega), Option.bind_some, if_pos rfl, hsc, Option.bind_some]
  unfold scanR
  rcases hn with ⟨h1, h2⟩ | ⟨h1, _, new, h3, h4, h5⟩
  · rw [if_neg h1, h2]
    rfl
  · rw [if_pos h1, h3, List.nil_append]
    have := nests_loop a0 new (by omega) new.length 0 (4 * a0.size + 30) 0 0 (by omega) (by omega) (by omega) (by omega)
    rw [List.drop_zero] at this
    have h6 := h5 0 (by omega)
    rw [show ((([] : List Int).length : Nat) : Int) = 0 from rfl] at h6
    rw [h6] at this
    exact this

end Go.Proofs.YtccabnimiacioaaDoor.U
