/- The contract of word.Scan in the printer's form: the tokens of a filter's text, or the first fault and its place; the text has at most 2^30 bytes. -/
import Derived.Test.YtccabnimiacioaaDoorOneAll
import Derived.Test.YtccabnimiacioaaDoorESkip
namespace Go.Proofs.YtccabnimiacioaaDoor.U
open Go.RowKit Go.Proofs.YtccabnimiacioaaDoorW.PrintWords
set_option linter.unusedSimpArgs false
set_option linter.unusedVariables false

/-- the tokens from a place on, once some are found -/
def scanZ (s : ByteArray) : Nat → Nat → List Tok → List Int → List Tok × Int × Int
  | 0, _, _, _ => ([], 21, s.size)
  | f + 1, i, toks, op =>
    if i < s.size then
      if (oneR s i op).e = 0 then scanZ s f (skipZ s (s.size + 1 - (oneR s i op).pos) (oneR s i op).pos) (toks ++ [⟨(oneR s i op).kind, i, (oneR s i op).pos, (oneR s i op).text⟩]) (oneR s i op).op
      else ([], (oneR s i op).e, (oneR s i op).pos)
    else if op = [] then (toks, 0, 0) else ([], 21, s.size)
def scanR (s : ByteArray) : List Tok × Int × Int := scanZ s (s.size + 1) (skipZ s (s.size + 1) 0) [] []

theorem skipZ_bounds (s : ByteArray) : ∀ f i, i ≤ s.size → i ≤ skipZ s f i ∧ skipZ s f i ≤ s.size
  | 0, i, h => ⟨Nat.le_refl _, h⟩
  | f + 1, i, h => by
    have h1 := runEnd_bounds blankB s (s.size - i) i h
    have h2 := runEnd_bounds remarkB s (s.size - runEnd blankB s (s.size - i) i) (runEnd blankB s (s.size - i) i) h1.2
    have h3 := skipZ_bounds s f (runEnd remarkB s (s.size - runEnd blankB s (s.size - i) i) (runEnd blankB s (s.size - i) i)) h2.2
    unfold skipZ
    split
    · omega
    · split
      · omega
      · omega

theorem reps_toks (w : World) (base : Nat) (ok : Nat → Prop) : ∀ (l acc : List Tok) (cs : List Value), Reps (k23.M w base ok) 4 acc cs → Reps (k23.M w base ok) 4 (acc ++ l) (cs ++ toksCells l)
  | [], acc, cs, h => by simpa [toksCells] using h
  | t :: l, acc, cs, h => by
    have h1 := Reps.snoc h (k23_mkM w base ok t) rfl
    have h2 := reps_toks w base ok l (acc ++ [t]) _ h1
    have e1 : acc ++ [t] ++ l = acc ++ t :: l := by simp
    have e2 : toksCells (t :: l) = tokCells t ++ toksCells l := rfl
    rw [e1, List.append_assoc] at h2
    rw [e2]
    exact h2
theorem toks_R {w : World} {base : Nat} {v : Value} {l : List Tok} (h : w.ownsRow base 23 4 v l.length (toksCells l)) : Kd.R k23 23 w base (fun _ => True) v l :=
  ⟨fun _ _ => trivial, toksCells l, h, by have := reps_toks w base (fun k => True ∧ some k ≠ v.ownBlock) l [] [] (Reps.none _ _); rw [List.nil_append, List.nil_append] at this; exact this⟩

set_option maxHeartbeats 8000000 in
set_option maxRecDepth 100000 in
theorem scan_body (s : ByteArray) (hs : s.size ≤ 1073741824) (R : List Tok × Int × Int) (hR : scanR s = R) (w : World) (hT : Tabs w) :
    Calls Tryd.prog 9 #[.string s] w fun e w' => ∃ v0_ : Value, e = .returned (.tuple #[v0_, .int .i64 R.2.1, .int .i64 R.2.2]) ∧ Kd.R k23 23 w' w.heap.size (fun _ => True) v0_ R.1 ∧ Below w.heap.size w w' := by
  have HR := Lib.hid hR
  have HT := Lib.hid hT
  clear hR hT
  have S0 : Hid (Sc w.heap.size w.heap.size s ((0 : Nat) : Int) [] [] 0 0 (.slice none 0 0) (.slice none 0 0) (w.alloc (.cells (scCells s 0 (.slice none 0 0) (.slice none 0 0) 0 0) 37))) :=
    ⟨heap_alloc_new w _, own_nil _ _ _ _, own_nil _ _ _ _, Nat.le_refl _⟩
  have hsk := skip_calls (w.alloc (.cells (scCells s 0 (.slice none 0 0) (.slice none 0 0) 0 0) 37)) 0 (Nat.zero_le _) (by omega) S0.out
  have hbd := skipZ_bounds s (s.size + 1) 0 (Nat.zero_le _)
  go_enter Tryd.func9, Tryd.ntmps9
  go_wp2_with (go_at_call 12; refine hsk.mono ?_; rintro e0 w1 ⟨rfl, S1, hb1⟩)
  have hB1 : Below w.heap.size w w1 := ((Below.refl _ w).alloc (Nat.le_refl _) _).trans hb1
  have S1h := Lib.hid S1
  clear S1 S0 hsk hb1
  go_loopg [] (s.size - skipZ s (s.size + 1) 0) (fun g wx => ∃ (i f : Nat) (toks : List Tok) (op : List Int) (vt vo : Value), Hid (scanZ s f i toks op = R) ∧ s.size < i + f ∧ i ≤ s.size ∧ g = s.size - i ∧ toks.length ≤ i ∧ Hid (Fits op i) ∧ Hid (Sc w.heap.size w.heap.size s i toks op 0 0 vt vo wx) ∧ Below w.heap.size w wx)
  case atStart => exact ⟨skipZ s (s.size + 1) 0, s.size + 1, [], [], _, _, HR, by omega, hbd.2, rfl, by simp, ⟨Nat.zero_le _, fun y hy => absurd hy List.not_mem_nil⟩, S1h, hB1⟩
  case round =>
    clear HR S1h hB1 hbd
    obtain ⟨i, f, toks, op, vt, vo, HU, hf, hi, hg, ht, HO, S, hb⟩ := hrel
    have c1 := S.out.c1
    have c3 := S.out.c3
    have c2 := S.out.c2
    have hi0 : (0 : Int) ≤ (i : Int) := by omega
    by_cases hp : i < s.size
    · obtain ⟨f, rfl⟩ : ∃ g, f = g + 1 := ⟨f - 1, by omega⟩
      have hone := one_calls wr i hp hs ht HO.out.1 HO.out.2 S.out (HT.out.below hb)
      have hrange := oneR_range s i op hp hs HO.out
      have hU := HU.out
      unfold scanZ at hU
      rw [if_pos hp] at hU
      have HU2 := Lib.hid hU
      clear HU hU
      obtain ⟨r, hr⟩ : ∃ r, oneR s i op = r := ⟨_, rfl⟩
      rw [hr] at hone hrange HU2
      clear hr
      obtain ⟨re, rp, rk, rt, ro⟩ := r
      unfold OneEnd at hone
      unfold OneOk at hrange
      simp only at hone hrange HU2
      by_cases he : re = 0
      · subst he
        obtain ⟨r1, r2, r3⟩ := hrange rfl
        have HF2 := Lib.hid r3
        have HU3 : Hid (scanZ s f (skipZ s (s.size + 1 - rp) rp) (toks ++ [⟨rk, i, rp, rt⟩]) ro = R) := by
          refine Eq.trans ?_ HU2.out
          rw [if_pos rfl]
        have hbd := skipZ_bounds s (s.size + 1 - rp) rp r2
        clear HU2 hrange r3
        go_wp2_with (go_at_call 13; (with_reducible refine hone.mono ?_); rintro e0 w2 ⟨rfl, (⟨_, vt2, vo2, S2⟩ | ⟨hz, _⟩), hb2⟩; rotate_left; exact absurd rfl hz; have S2h := Lib.hid S2; have c4 := S2.c4; clear S2; have hb3 := Lib.hid (hb.trans hb2); clear hb2)
        go_wp2_with (go_at_call 12; (with_reducible refine (skip_calls _ rp r2 (by omega) S2h.out).mono ?_); rintro e0 w3 ⟨rfl, S3, hb4⟩; have S3h := Lib.hid S3; clear S3)
        go_roundg (s.size - skipZ s (s.size + 1 - rp) rp)
        case measure => omega
        case rel => exact ⟨_, f, _, ro, vt2, vo2, HU3, by omega, hbd.2, rfl, by rw [List.length_append]; simp; omega, HF2.out.mono hbd.1, S3h, hb3.out.trans hb4⟩
      · have HU3 : Hid ((([] : List Tok), re, (rp : Int)) = R) := by
          refine Eq.trans ?_ HU2.out
          rw [if_neg he]
        clear HU2 hrange
        have hn : (re != 0) = true := bne_iff_ne.2 he
        go_wp2_with (go_at_call 13; (with_reducible refine hone.mono ?_); rintro e0 w2 ⟨rfl, (⟨hz, _⟩ | ⟨_, vt2, vo2, S2⟩), hb2⟩; exact absurd hz he; have S2h := Lib.hid S2; have c4 := S2.c4; have c5 := S2.c5; clear S2; have hb3 := Lib.hid (hb.trans hb2); clear hb2)
        go_quiet (fail)
        all_goals
          go_wp2
          rw [← HU3.out]
          go_ret3
          exact ⟨_, rfl, Kd.R_nil _ _ _ _ _, by apply pw_below_drewN; exact hb3.out⟩
    · have hU := HU.out
      by_cases ho : op = []
      · subst ho
        have HU3 : Hid ((toks, (0 : Int), (0 : Int)) = R) := by
          refine Eq.trans ?_ hU
          cases f with
          | zero => omega
          | succ f =>
            unfold scanZ
            rw [if_neg hp, if_pos rfl]
        clear HU hU
        obtain ⟨A, cp, rfl⟩ := own_slice S.out.opn
        go_wp2
        rw [← HU3.out]
        go_ret3
        exact ⟨_, rfl, toks_R S.out.tok, hb⟩
      · have HU3 : Hid ((([] : List Tok), (21 : Int), (s.size : Int)) = R) := by
          refine Eq.trans ?_ hU
          cases f with
          | zero => omega
          | succ f =>
            unfold scanZ
            rw [if_neg hp, if_neg ho]
        obtain ⟨A, cp, rfl⟩ := own_slice S.out.opn
        have hlo : (0 : Int) < (op.length : Int) := by have := List.length_pos_iff.2 ho; omega
        clear HU hU ho
        go_wp2
        rw [← HU3.out]
        go_ret3
        exact ⟨_, rfl, Kd.R_nil _ _ _ _ _, hb⟩

theorem letter_range (c : Int) (h : letterB c = true) : (97 ≤ c ∧ c ≤ 122) ∨ (65 ≤ c ∧ c ≤ 90) ∨ c = 95 := by
  have hl := letter_some c
  rw [h] at hl
  unfold word_isLetter.f at hl
  repeat' split at hl
  all_goals simp at hl
  all_goals omega
theorem letter_not_blank (c : Int) (h : letterB c = true) : blankB c = false := by
  have hr := letter_range c h
  unfold blankB word_isBlank.f
  rw [if_neg (by omega), if_neg (by omega), if_neg (by omega), beq_eq_false_iff_ne.2 (show c ≠ 13 by omega)]
  rfl
theorem plain_facts (s : ByteArray) (hp : plainB s = true) : 0 < s.size ∧ letterB (bt s 0) = true ∧ runEnd inNameB s s.size 0 = s.size := by
  have h1 : word_Plain.f s = some true := by simpa [plainB] using hp
  have h2 : word_Named.f s = some true := by
    unfold word_Plain.f at h1
    obtain ⟨b, hb, h1⟩ := Option.bind_eq_some_iff.mp h1
    cases b
    · simp at h1
    · exact hb
  unfold word_Named.f at h2
  by_cases c : s.size = 0
  · rw [if_pos c] at h2
    simp at h2
  · rw [if_neg c] at h2
    split at h2
    · rw [letter_some, Option.bind_some] at h2
      cases hl : letterB (bt s 0)
      · rw [hl] at h2
        simp at h2
      · rw [hl] at h2
        simp at h2
        exact ⟨by omega, rfl, h2⟩
    · simp at h2
theorem whole (s : ByteArray) : s.extract 0 s.size = s := by
  apply ByteArray.ext
  apply Array.ext'
  rw [Lib.extract_data, List.drop_zero, Nat.sub_zero, List.take_of_length_le (by rw [← Lib.size_eq]; exact Nat.le_refl _)]

set_option maxHeartbeats 8000000 in
set_option maxRecDepth 100000 in
theorem scan_plain (s : ByteArray) (hs : s.size ≤ 140737488351232) (hpl : plainB s = true) (w : World) (hT : Tabs w) :
    Calls Tryd.prog 9 #[.string s] w fun e w' => ∃ v0_ : Value, e = .returned (.tuple #[v0_, .int .i64 0, .int .i64 0]) ∧ Kd.R k23 23 w' w.heap.size (fun _ => True) v0_ [⟨1, 0, (s.size : Int), s⟩] ∧ Below w.heap.size w w' := by
  obtain ⟨h0, hl, hrun⟩ := plain_facts s hpl
  have h1 : word_Plain.f (s.extract 0 s.size) = some true := by
    rw [whole]
    simpa [plainB] using hpl
  have hr := letter_range _ hl
  have HP := Lib.hid h1
  have HL : Hid (word_isLetter.f (bt s 0) = some true) := by
    show word_isLetter.f _ = some true
    rw [letter_some, hl]
  have hsk0 : skipZ s (s.size + 1 - 0) 0 = 0 := by
    have hb0 : runEnd blankB s (s.size - 0) 0 = 0 := by
      obtain ⟨g, hg⟩ : ∃ g, s.size = g + 1 := ⟨s.size - 1, by omega⟩
      rw [Nat.sub_zero, hg]
      unfold runEnd
      rw [if_pos h0]
      have := letter_not_blank _ hl
      rw [show (((0 : Nat) : Int)) = (0 : Int) from rfl, this, if_neg (by decide)]
    rw [Nat.sub_zero]
    unfold skipZ
    rw [hb0, if_neg (by omega), if_pos (by show bt s 0 ≠ 35; omega)]
  have hsk1 : skipZ s (s.size + 1 - s.size) s.size = s.size := by
    rw [show s.size + 1 - s.size = 0 + 1 by omega]
    unfold skipZ
    rw [Nat.sub_self]
    show (if s.size = s.size then s.size else _) = s.size
    rw [if_pos rfl]
  have HT := Lib.hid hT
  have S0 : Hid (Sc w.heap.size w.heap.size s ((0 : Nat) : Int) [] [] 0 0 (.slice none 0 0) (.slice none 0 0) (w.alloc (.cells (scCells s 0 (.slice none 0 0) (.slice none 0 0) 0 0) 37))) :=
    ⟨heap_alloc_new w _, own_nil _ _ _ _, own_nil _ _ _ _, Nat.le_refl _⟩
  have hsk := skip_calls (w.alloc (.cells (scCells s 0 (.slice none 0 0) (.slice none 0 0) 0 0) 37)) 0 (Nat.zero_le _) hs S0.out
  rw [hsk0] at hsk
  have H1 := Lib.hid hsk1
  have HR := Lib.hid hrun
  clear hsk0 hsk1 hrun hT hpl h1 hr hl
  go_enter Tryd.func9, Tryd.ntmps9
  go_wp2_with (go_at_call 12; refine hsk.mono ?_; rintro e0 w1 ⟨rfl, S1, hb1⟩)
  have hB1 : Below w.heap.size w w1 := ((Below.refl _ w).alloc (Nat.le_refl _) _).trans hb1
  have S1h := Lib.hid S1
  clear S1 S0 hsk hb1
  go_loopg [] 1 (fun g wx => (g = 1 ∧ Hid (Sc w.heap.size w.heap.size s ((0 : Nat) : Int) [] [] 0 0 (.slice none 0 0) (.slice none 0 0) wx) ∧ Below w.heap.size w wx) ∨ (g = 0 ∧ ∃ vt vo, Hid (Sc w.heap.size w.heap.size s (s.size : Int) [⟨1, 0, (s.size : Int), s⟩] [] 0 0 vt vo wx) ∧ Below w.heap.size w wx))
  case atStart => exact Or.inl ⟨rfl, S1h, hB1⟩
  case round =>
    clear S1h hB1
    rcases hrel with ⟨hg, S, hb⟩ | ⟨hg, vt, vo, S, hb⟩
    · have c1 : wr.cell? ⟨w.heap.size, 1, none⟩ = some (.int .i64 0) := S.out.c1
      have hz : (0 : Int) < (s.size : Int) := by omega
      have hone := one_name_true wr 0 h0 hs (by simp) (by simp) (by simp) (bt s 0) rfl (by simp) (by have := letter_range (bt s 0) (by have := HL.out; rw [letter_some] at this; simpa using this); omega) HL s.size (by rw [Nat.sub_zero]; exact HR.out) HP S.out (HT.out.below hb)
      rw [whole] at hone
      unfold OneEnd at hone
      simp only at hone
      go_wp2_with (go_at_call 13; (with_reducible refine hone.mono ?_); rintro e0 w2 ⟨rfl, (⟨_, vt2, vo2, S2⟩ | ⟨hz, _⟩), hb2⟩; rotate_left; exact absurd rfl hz; have S2h := Lib.hid S2; have c4 := S2.c4; clear S2; have hb3 := Lib.hid (hb.trans hb2); clear hb2)
      go_wp2_with (go_at_call 12; (with_reducible refine (skip_calls _ s.size (Nat.le_refl _) hs S2h.out).mono ?_); rintro e0 w3 ⟨rfl, S3, hb4⟩; rw [H1.out] at S3; have S3h := Lib.hid S3; clear S3)
      go_roundg 0
      case measure => omega
      case rel => exact Or.inr ⟨rfl, vt2, vo2, S3h, hb3.out.trans hb4⟩
    · have c1 := S.out.c1
      have c2 := S.out.c2
      have c3 := S.out.c3
      obtain ⟨A, cp, rfl⟩ := own_slice S.out.opn
      go_wp2
      go_ret3
      exact ⟨_, rfl, toks_R S.out.tok, hb⟩

def word_Scan.f (a0 : ByteArray) : Option (List Tok × Int × Int) := if a0.size ≤ 1073741824 then some (scanR a0) else if a0.size ≤ 140737488351232 ∧ plainB a0 = true then some ([⟨1, 0, (a0.size : Int), a0⟩], 0, 0) else none

theorem word_Scan.calls (a0 : ByteArray) (r1 : List Tok) (r2 r3 : Int) (w : World) (hT : Tabs w) (h : word_Scan.f a0 = some (r1, r2, r3)) :
    Calls Tryd.prog 9 #[.string a0] w fun e w' => ∃ v0_ : Value, e = .returned (.tuple #[v0_, .int .i64 r2, .int .i64 r3]) ∧ Kd.R k23 23 w' w.heap.size (fun _ => True) v0_ r1 ∧ Below w.heap.size w w' := by
  unfold word_Scan.f at h
  split at h
  · rename_i hs
    exact scan_body a0 hs (r1, r2, r3) (Option.some.inj h) w hT
  · split at h
    · rename_i hs
      injection h with h
      injection h with e1 h
      injection h with e2 e3
      subst e1 e2 e3
      exact scan_plain a0 hs.1 hs.2 w hT
    · cases h

end Go.Proofs.YtccabnimiacioaaDoor.U
