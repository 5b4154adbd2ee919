/- The contract of the scanner's piece where a text goes on behind a filter. -/
import Derived.Test.YtccabnimiacioaaDoorEPiece
namespace Go.Proofs.YtccabnimiacioaaDoor.U
open Go.RowKit Go.Proofs.YtccabnimiacioaaDoorW.PrintWords
set_option linter.unusedSimpArgs false

set_option maxHeartbeats 16000000 in
set_option maxRecDepth 100000 in
theorem piece_next {B b : Nat} {s : ByteArray} {toks : List Tok} {op : List Int} {vt vo : Value} (W : World) (i : Nat) (hi : i < s.size) (hs : s.size ≤ 1073741824) (hop : op ≠ []) (ht : toks.length ≤ i) (hol : op.length ≤ i) (h : Sc B b s i toks op 0 0 vt vo W) (hT : Tabs W) :
    Calls Tryd.prog 20 #[.pointer (some ⟨b, 0, none⟩), .int .i64 9, .int .i64 8] W fun r w' => r = .returned (.tuple #[]) ∧ PieceEnd B b s i toks op vt vo 9 8 op.dropLast op (pieceZ s s.size (i + 1) []) w' ∧ Below B W w' := by
  obtain ⟨R, hR⟩ : ∃ R, pieceZ s s.size (i + 1) [] = R := ⟨_, rfl⟩
  rw [hR]
  have HR := Lib.hid hR
  have c1 := h.c1
  have c0 := h.c0
  have hlow := h.low
  have hlt := h.lt
  obtain ⟨m, hm⟩ : ∃ m, op.length = m + 1 := ⟨op.length - 1, by have := List.length_pos_iff.2 hop; omega⟩
  obtain ⟨A, cp, rfl⟩ := own_slice h.opn
  have hcap : op.length ≤ cp := own_le h.opn
  rw [hm] at h hcap ⊢
  have H := Lib.hid h
  have HT := Lib.hid hT
  have hDW : B ≤ W.heap.size := Nat.le_trans hlow (Nat.le_of_lt hlt)
  clear h hR hT
  go_enter Tryd.func20, Tryd.ntmps20
  go_wp2
  clear c1 c0
  go_loopw [7] (fun x wr => ∃ (pos f : Nat) (acc : List UInt8), x = .int .i64 pos ∧ Hid (pieceZ s f pos acc = R) ∧ s.size ≤ pos + f ∧ i + 1 ≤ pos ∧ pos ≤ s.size ∧ acc.length ≤ 4 * pos ∧ Hid (Bld.Is W.heap.size W.heap.size (Lib.byteCells acc) wr) ∧ Below W.heap.size W wr) (fun x _ => s.size - (intOf x).toNat)
  case atStart => exact ⟨i + 1, s.size, [], by go_num, HR, by omega, Nat.le_refl _, by omega, by simp, Lib.fresh_isBuilder 49 5 W, (Below.refl _ W).alloc (Nat.le_refl _) _⟩
  case round =>
    clear HR
    obtain ⟨pos, f, acc, rfl, HU, hf, hip, hpl, hal, hI, hbw⟩ := hrel
    have S : Hid (Sc B b s i toks op 0 0 vt (.slice A (m + 1) cp) wr) := H.out.below hbw
    have c0 := S.out.c0
    by_cases hp : pos < s.size
    · obtain ⟨f, rfl⟩ : ∃ g, f = g + 1 := ⟨f - 1, by omega⟩
      have hTr : Tabs wr := HT.out.below hbw
      have hD := dec_calls s pos hp wr hTr
      clear hTr
      have hwd := Utf.at_width s pos hp
      have hrr := Utf.decode_range s pos
      have hpp := paren_prefix s pos hp
      rw [pieceZ.eq_def] at HU
      simp only at HU
      rw [if_pos hp] at HU
      obtain ⟨rr, hr⟩ : ∃ x, x = (Utf8.decode s pos).1 := ⟨_, rfl⟩
      obtain ⟨nn, hn⟩ : ∃ x, x = (Utf8.decode s pos).2 := ⟨_, rfl⟩
      rw [← hr, ← hn] at HU hD
      rw [← hn] at hwd
      rw [← hr] at hrr
      clear hr hn
      have hx := bt_at s (pos : Int) hp
      have hcr := bt_range s (pos : Int)
      obtain ⟨c, hc⟩ : ∃ c, bt s (pos : Int) = c := ⟨_, rfl⟩
      rw [hc] at HU hx hcr
      clear hc
      have hx' : ((s[pos]'hp).toNat : Int) = c := hx
      clear hx
      by_cases g1 : c = 34
      · subst g1
        have HE : Hid (((0 : Int), pos + 1, true, acc) = R) := by
          refine Eq.trans ?_ HU.out
          rw [if_pos rfl]
        clear HU hpp
        go_wp2_with (first
          | (go_at_call 30; (with_reducible refine hD.mono ?_); rintro e0 w1 ⟨rfl, hb1⟩; have hbw1 := hbw.trans (hb1.mono hbw.size); have S1 := Lib.hid (H.out.below hbw1); have c0a := S1.out.c0; have c3a := S1.out.c3; have f3a := S1.out.fr 3; have hI1 := Lib.hid (Bld.Is.below hI.out hb1)))
        go_region
        all_goals
          have S6 : Hid (Sc B b s i toks op.dropLast 0 0 vt (.slice A m cp) ((w1.setCell ⟨b, 3, none⟩ (.slice A m cp)).drew)) := by
            have h1 := S1.out.opn
            rw [hm] at h1
            have h2 := own_take h1 (Nat.le_succ m)
            have hl : op.dropLast.length = m := by rw [List.length_dropLast, hm]; rfl
            have he : (nums .i64 op).take (m * 1) = nums .i64 op.dropLast := by
              rw [List.dropLast_eq_take, hm, Nat.mul_one]
              simp [nums, List.map_take]
            rw [he] at h2
            exact (Sc.opens (op1 := op.dropLast) S1.out (W1 := w1) (v1 := .slice A m cp) (by rw [hl]; exact h2) (World.grownBy.refl _ _)).below (Below.refl _ _).drew
          have hI6 : Hid (Bld.Is W.heap.size W.heap.size (Lib.byteCells acc) ((w1.setCell ⟨b, 3, none⟩ (.slice A m cp)).drew)) := Bld.Is.apart hI1.out (fun k cs t hk h1 h2 => Sc.apartO (v1 := .slice A m cp) S1.out (World.grownBy.refl _ _) k cs t hk h1 h2)
          have hbw6 : Below B W ((w1.setCell ⟨b, 3, none⟩ (.slice A m cp)).drew) := ((hbw1.mono hDW).setCell (p := ⟨b, 3, none⟩) hlow _).drew
          generalize (w1.setCell ⟨b, 3, none⟩ (.slice A m cp)).drew = w6 at S6 hI6 hbw6 ⊢
          clear c0a c3a f3a
          go_wp2_with (first
            | (go_at_call 31; (with_reducible refine (Bld.StringK W.heap.size W.heap.size acc _ hI6.out hbw6.size).mono ?_); rintro e0 w4 ⟨rfl, hb4, hk4⟩; have hbw4 := hbw6.trans (hb4.mono hDW); have S4 := Lib.hid (Sc.others S6.out hk4 (Bld.Is.shape hI6.out)))
            | (go_at_call 23; (with_reducible refine (token_calls _ 9 _ ⟨acc.toArray⟩ S4.out (by omega)).mono ?_); rintro e0 w5 ⟨rfl, v5, S5, hb5⟩))
          refine bodyPost_ret (results_none rfl _ _ _) rfl ?_
          rw [← HE.out]
          exact ⟨rfl, Or.inl ⟨rfl, v5, _, S5⟩, hbw4.trans hb5⟩
      by_cases g2 : c = 92
      · subst g2
        by_cases g3 : pos + 1 < s.size ∧ bt s ((pos + 1 : Nat) : Int) = 40
        · rw [decide_eq_true g3] at hpp
          have HE : Hid (((0 : Int), pos + 2, false, acc) = R) := by
            refine Eq.trans ?_ HU.out
            rw [if_neg (by decide), if_pos ⟨rfl, g3⟩]
          clear HU g3 g1
          go_wp2_with (first
            | (go_at_call 30; (with_reducible refine hD.mono ?_); rintro e0 w1 ⟨rfl, hb1⟩; have hbw1 := hbw.trans (hb1.mono hbw.size); have S1 := Lib.hid (H.out.below hbw1); have c0a := S1.out.c0; have c3a := S1.out.c3; have f3a := S1.out.fr 3; have hI1 := Lib.hid (Bld.Is.below hI.out hb1))
            | (go_at_call 32; (with_reducible refine (Tryd.strings_HasPrefix (s.extract (pos + 1) s.size) _ _).mono ?_); rintro e0 w2 ⟨rfl, hw2⟩; obtain rfl := hw2.symm; rw [hpp])
            | (go_at_call 31; (with_reducible refine (Bld.StringK W.heap.size W.heap.size acc _ hI1.out hbw1.size).mono ?_); rintro e0 w4 ⟨rfl, hb4, hk4⟩; have hbw4 := hbw1.trans hb4; have S4 := Lib.hid (H.out.below hbw4))
            | (go_at_call 23; (with_reducible refine (token_calls _ 8 _ ⟨acc.toArray⟩ S4.out (by omega)).mono ?_); rintro e0 w5 ⟨rfl, v5, S5, hb5⟩))
          refine bodyPost_ret (results_none rfl _ _ _) rfl ?_
          rw [← HE.out]
          exact ⟨rfl, Or.inl ⟨rfl, v5, _, S5⟩, (hbw4.mono hDW).trans hb5⟩
        · rw [decide_eq_false g3] at hpp
          have HU2 := HU
          rw [if_neg (by decide), if_neg (fun g => g3 g.2), if_pos rfl] at HU2
          have hER := escT_range (s.extract pos s.size)
          have hq : Aside0 (utf_Escape.f s pos = some ((escT (s.extract pos s.size)).1, (pos : Int) + (escT (s.extract pos s.size)).2.1, (escT (s.extract pos s.size)).2.2)) := ⟨by
            unfold utf_Escape.f
            rw [if_pos (by omega), if_neg (by omega), Int.toNat_natCast]⟩
          have hes : (s.extract pos s.size).size = s.size - pos := by rw [ByteArray.size_extract]; omega
          rw [hes] at hER
          obtain ⟨q1, e1⟩ : ∃ x, x = (escT (s.extract pos s.size)).1 := ⟨_, rfl⟩
          obtain ⟨qa, e2⟩ : ∃ x, x = (escT (s.extract pos s.size)).2.1 := ⟨_, rfl⟩
          obtain ⟨q3, e3⟩ : ∃ x, x = (escT (s.extract pos s.size)).2.2 := ⟨_, rfl⟩
          rw [← e1, ← e2, ← e3] at hER hq HU2
          have HQ := hq
          clear e1 e2 e3 hq HU g1 g3 hes
          by_cases g5 : q3 = 0
          · subst g5
            obtain ⟨r0, r1, r2, r3⟩ := hER rfl
            obtain ⟨z, rfl⟩ : ∃ z : Nat, qa = z := ⟨qa.toNat, by omega⟩
            have HE : Hid (pieceZ s f (pos + z) (acc ++ Lib.encodeRune q1) = R) := by
              refine Eq.trans ?_ HU2.out
              rw [if_pos rfl, Int.toNat_natCast]
            clear HU2 hER
            go_wp2_with (first
              | (go_at_call 30; (with_reducible refine hD.mono ?_); rintro e0 w1 ⟨rfl, hb1⟩; have hbw1 := hbw.trans (hb1.mono hbw.size); have S1 := Lib.hid (H.out.below hbw1); have c0a := S1.out.c0; have c3a := S1.out.c3; have f3a := S1.out.fr 3; have hI1 := Lib.hid (Bld.Is.below hI.out hb1))
              | (go_at_call 32; (with_reducible refine (Tryd.strings_HasPrefix (s.extract (pos + 1) s.size) _ _).mono ?_); rintro e0 w2 ⟨rfl, hw2⟩; obtain rfl := hw2.symm; rw [hpp])
              | (go_at_call 33; (with_reducible refine (utf_Escape.calls s pos q1 _ _ _ HQ.out).mono ?_); rintro e0 w2 ⟨rfl, hb2⟩; have hbw2 := hbw1.trans (hb2.mono hbw1.size); have S2 := Lib.hid (H.out.below hbw2); have hI2 := Lib.hid (Bld.Is.below hI1.out hb2))
              | (go_at_call 34; (with_reducible refine (Bld.WriteRune W.heap.size W.heap.size _ q1 (by omega) (by omega) _ hI2.out (by rw [Lib.byteCells_length]; omega) hbw2.size).mono ?_); rintro e0 w3 ⟨rfl, h3, b3, k3⟩))
            case roundEnd =>
              refine ⟨⟨pos + z, f, acc ++ Lib.encodeRune q1, by first | go_num | (congr 1; omega), HE, by omega, by omega, by omega, ?_, ?_, hbw2.trans b3⟩, ?_⟩
              · have h4 := (Lib.runeCells_le q1).2
                rw [Lib.runeCells_length] at h4
                simp only [List.length_append]
                omega
              · show Bld.Is _ _ _ _
                rw [Lib.byteCells_append, Lib.byteCells_encodeRune]
                exact Or.inr h3
              · simp [intOf]; omega
          · have HE : Hid ((q3, pos, false, ([] : List UInt8)) = R) := by
              refine Eq.trans ?_ HU2.out
              rw [if_neg g5]
            clear HU2 hER
            go_wp2_with (first
              | (go_at_call 30; (with_reducible refine hD.mono ?_); rintro e0 w1 ⟨rfl, hb1⟩; have hbw1 := hbw.trans (hb1.mono hbw.size); have S1 := Lib.hid (H.out.below hbw1); have c0a := S1.out.c0; have c3a := S1.out.c3; have f3a := S1.out.fr 3; have hI1 := Lib.hid (Bld.Is.below hI.out hb1))
              | (go_at_call 32; (with_reducible refine (Tryd.strings_HasPrefix (s.extract (pos + 1) s.size) _ _).mono ?_); rintro e0 w2 ⟨rfl, hw2⟩; obtain rfl := hw2.symm; rw [hpp])
              | (go_at_call 33; (with_reducible refine (utf_Escape.calls s pos q1 _ _ _ HQ.out).mono ?_); rintro e0 w2 ⟨rfl, hb2⟩; have hbw2 := hbw1.trans (hb2.mono hbw1.size); have S2 := Lib.hid (H.out.below hbw2); have hI2 := Lib.hid (Bld.Is.below hI1.out hb2))
              | (go_at_call 24; (with_reducible refine (fail_calls _ q3 pos S2.out).mono ?_); rintro e0 w5 ⟨rfl, S5, hb5⟩; have hbwZ := hbw2))
            refine bodyPost_ret (results_none rfl _ _ _) rfl ?_
            rw [← HE.out]
            exact ⟨rfl, Or.inr ⟨g5, S5⟩, (hbw2.mono hDW).trans hb5⟩
      clear hpp
      by_cases g3 : c < 32
      · have HE : Hid (((22 : Int), pos, false, ([] : List UInt8)) = R) := by
          refine Eq.trans ?_ HU.out
          rw [if_neg g1, if_neg (fun g => g2 g.1), if_neg g2, if_pos g3]
        clear HU
        go_wp2_with (first
          | (go_at_call 30; (with_reducible refine hD.mono ?_); rintro e0 w1 ⟨rfl, hb1⟩; have hbw1 := hbw.trans (hb1.mono hbw.size); have S1 := Lib.hid (H.out.below hbw1); have c0a := S1.out.c0; have c3a := S1.out.c3; have f3a := S1.out.fr 3; have hI1 := Lib.hid (Bld.Is.below hI.out hb1))
          | (go_at_call 24; (with_reducible refine (fail_calls _ 22 pos S1.out).mono ?_); rintro e0 w5 ⟨rfl, S5, hb5⟩; have hbwZ := hbw1))
        refine bodyPost_ret (results_none rfl _ _ _) rfl ?_
        rw [← HE.out]
        exact ⟨rfl, Or.inr ⟨by show (22 : Int) ≠ 0; decide, S5⟩, (hbw1.mono hDW).trans hb5⟩
      by_cases g4 : rr = 65533 ∧ nn = 1
      · have HE : Hid (((20 : Int), pos, false, ([] : List UInt8)) = R) := by
          refine Eq.trans ?_ HU.out
          rw [if_neg g1, if_neg (fun g => g2 g.1), if_neg g2, if_neg g3, if_pos g4]
        obtain ⟨g4a, g4b⟩ := g4
        subst g4a g4b
        clear HU
        go_wp2_with (first
          | (go_at_call 30; (with_reducible refine hD.mono ?_); rintro e0 w1 ⟨rfl, hb1⟩; have hbw1 := hbw.trans (hb1.mono hbw.size); have S1 := Lib.hid (H.out.below hbw1); have c0a := S1.out.c0; have c3a := S1.out.c3; have f3a := S1.out.fr 3; have hI1 := Lib.hid (Bld.Is.below hI.out hb1))
          | (go_at_call 24; (with_reducible refine (fail_calls _ 20 pos S1.out).mono ?_); rintro e0 w5 ⟨rfl, S5, hb5⟩; have hbwZ := hbw1))
        refine bodyPost_ret (results_none rfl _ _ _) rfl ?_
        rw [← HE.out]
        exact ⟨rfl, Or.inr ⟨by show (20 : Int) ≠ 0; decide, S5⟩, (hbw1.mono hDW).trans hb5⟩
      have HE : Hid (pieceZ s f (pos + nn) (acc ++ Lib.encodeRune (rr : Int)) = R) := by
        refine Eq.trans ?_ HU.out
        rw [if_neg g1, if_neg (fun g => g2 g.1), if_neg g2, if_neg g3, if_neg g4]
      clear HU
      by_cases g5 : rr = 65533
      · subst g5
        have g6 : ¬ nn = 1 := fun g => g4 ⟨rfl, g⟩
        clear g4
        go_wp2_with (first
          | (go_at_call 30; (with_reducible refine hD.mono ?_); rintro e0 w1 ⟨rfl, hb1⟩; have hbw1 := hbw.trans (hb1.mono hbw.size); have S1 := Lib.hid (H.out.below hbw1); have c0a := S1.out.c0; have c3a := S1.out.c3; have f3a := S1.out.fr 3; have hI1 := Lib.hid (Bld.Is.below hI.out hb1))
          | (go_at_call 34; (with_reducible refine (Bld.WriteRune W.heap.size W.heap.size _ 65533 (by omega) (by omega) _ hI1.out (by rw [Lib.byteCells_length]; omega) hbw1.size).mono ?_); rintro e0 w3 ⟨rfl, h3, b3, k3⟩))
        case roundEnd =>
          refine ⟨⟨pos + nn, f, acc ++ Lib.encodeRune ((65533 : Nat) : Int), by first | go_num | (congr 1; omega), HE, by omega, by omega, by omega, ?_, ?_, hbw1.trans b3⟩, ?_⟩
          · have h4 := (Lib.runeCells_le ((65533 : Nat) : Int)).2
            rw [Lib.runeCells_length] at h4
            simp only [List.length_append]
            omega
          · show Bld.Is _ _ _ _
            rw [Lib.byteCells_append, Lib.byteCells_encodeRune]
            exact Or.inr h3
          · simp [intOf]; omega
      · clear g4
        go_wp2_with (first
          | (go_at_call 30; (with_reducible refine hD.mono ?_); rintro e0 w1 ⟨rfl, hb1⟩; have hbw1 := hbw.trans (hb1.mono hbw.size); have S1 := Lib.hid (H.out.below hbw1); have c0a := S1.out.c0; have c3a := S1.out.c3; have f3a := S1.out.fr 3; have hI1 := Lib.hid (Bld.Is.below hI.out hb1))
          | (go_at_call 34; (with_reducible refine (Bld.WriteRune W.heap.size W.heap.size _ (rr : Int) (by omega) (by omega) _ hI1.out (by rw [Lib.byteCells_length]; omega) hbw1.size).mono ?_); rintro e0 w3 ⟨rfl, h3, b3, k3⟩))
        case roundEnd =>
          refine ⟨⟨pos + nn, f, acc ++ Lib.encodeRune (rr : Int), by first | go_num | (congr 1; omega), HE, by omega, by omega, by omega, ?_, ?_, hbw1.trans b3⟩, ?_⟩
          · have h4 := (Lib.runeCells_le (rr : Int)).2
            rw [Lib.runeCells_length] at h4
            simp only [List.length_append]
            omega
          · show Bld.Is _ _ _ _
            rw [Lib.byteCells_append, Lib.byteCells_encodeRune]
            exact Or.inr h3
          · simp [intOf]; omega
    · have HE : Hid (((21 : Int), s.size, false, ([] : List UInt8)) = R) := by
        refine Eq.trans ?_ HU.out
        cases f with
        | zero => rfl
        | succ f =>
          unfold pieceZ
          rw [if_neg hp]
      clear HU
      go_wp2_with (first
        | (go_at_call 24; (with_reducible refine (fail_calls _ 21 s.size S.out).mono ?_); rintro e0 w5 ⟨rfl, S5, hb5⟩; have hbwZ := hbw))
      go_end0
      rw [← HE.out]
      exact ⟨rfl, Or.inr ⟨by show (21 : Int) ≠ 0; decide, S5⟩, (hbw.mono hDW).trans hb5⟩

end Go.Proofs.YtccabnimiacioaaDoor.U
