/- What a text's tokens are bounded by: how many, and how long what they say. -/
import Derived.Test.YthlmhnlfcnpocaaDoorEOne
import Derived.Test.YthlmhnlfcnpocaaDoorEMark
import Derived.Test.YthlmhnlfcnpocaaDoorScanA
namespace Go.Proofs.YthlmhnlfcnpocaaDoor.U
open Go.RowKit Go.Proofs.YthlmhnlfcnpocaaDoorW.PrintWords
set_option linter.unusedSimpArgs false
set_option linter.unusedVariables false

theorem rest_list (s : ByteArray) (i : Nat) : (s.extract i s.size).data.toList = s.data.toList.drop i := by
  rw [Lib.extract_data, List.take_of_length_le (by rw [List.length_drop, ← Lib.size_eq]; omega)]
theorem rest_bt (s : ByteArray) (i j : Nat) (h : i + j < s.size) : bt (s.extract i s.size) (j : Int) = bt s ((i + j : Nat) : Int) := by
  have hl : j < (s.extract i s.size).size := by rw [ByteArray.size_extract]; omega
  rw [← getD_bt s (i + j) h, ← getD_bt _ j hl, rest_list]
  simp [List.getD, List.getElem?_drop]

theorem mark_calls {B b : Nat} {s : ByteArray} {toks : List Tok} {op : List Int} {vt vo : Value} (W : World) (i : Nat) (hi : i < s.size) (hs : s.size ≤ 1073741824) (ht : toks.length ≤ i) (hol : op.length ≤ i) (hop : ∀ y ∈ op, 0 ≤ y ∧ y ≤ (i : Int)) (h : Sc B b s i toks op 0 0 vt vo W) (hT : Tabs W) :
    Calls Tryd.prog 41 #[.pointer (some ⟨b, 0, none⟩)] W fun r w' => r = .returned (.tuple #[]) ∧ OneEnd B b s i toks op (markR s i op) w' ∧ Below B W w' := by
  have hts : (s.extract i s.size).size + i = s.size := by rw [ByteArray.size_extract]; omega
  have hb0 : bt (s.extract i s.size) 0 = bt s (i : Int) := rest_bt s i 0 (by omega)
  have hc : ∀ g : 0 < (s.extract i s.size).size, (((s.extract i s.size)[0]'g).toNat : Int) = bt s (i : Int) := by
    intro g
    rw [← hb0]
    exact bt_at _ 0 g
  have hlast : ∀ m : Nat, op.length = m + 1 → 0 ≤ op.getD m 0 ∧ op.getD m 0 ≤ (i : Int) := by
    intro m hm
    have hl : m < op.length := by omega
    rw [List.getD_eq_getElem?_getD, List.getElem?_eq_getElem hl]
    exact hop _ (List.getElem_mem hl)
  have hne : op ≠ [] → ∃ m, op.length = m + 1 := fun e => ⟨op.length - 1, by have := List.length_pos_iff.2 e; omega⟩
  unfold markR markSz
  rw [hb0]
  obtain ⟨t, hext⟩ : ∃ t, s.extract i s.size = t := ⟨_, rfl⟩
  obtain ⟨c, hcc⟩ : ∃ c, bt s (i : Int) = c := ⟨_, rfl⟩
  rw [hext] at hts hc ⊢
  rw [hcc] at hc ⊢
  clear hb0
  by_cases m3 : mk3 t = true
  · have hz : 3 ≤ t.size := by
      have := hasPrefix_le' m3
      rw [← Lib.size_eq] at this
      exact this
    rw [if_pos m3, if_neg (by decide), if_pos (Or.inr (by decide))]
    by_cases e : op = []
    · exact mark_three W i hi hs ht hol hext hts hc m3 hz e h hT
    · obtain ⟨m, hm⟩ := hne e
      exact mark_three_in W i hi hs ht hol hext hts hc m3 hz m hm h hT
  · rw [if_neg m3]
    have h3 : mk3 t = false := by simpa using m3
    by_cases m2 : 1 < t.size ∧ mk2 t = true
    · have HC := contains_f t
      rw [m2.2] at HC
      rw [if_pos m2, if_neg (by decide), if_pos (Or.inr (by decide))]
      by_cases e : op = []
      · exact mark_two W i hi hs ht hol hext hts hc h3 m2.1 HC e h hT
      · obtain ⟨m, hm⟩ := hne e
        exact mark_two_in W i hi hs ht hol hext hts hc h3 m2.1 HC m hm h hT
    · rw [if_neg m2]
      have hlong : 1 < t.size → Hid (strings_Contains.f twosT (((⟨#[32]⟩ : ByteArray) ++ t.extract 0 2) ++ (⟨#[32]⟩ : ByteArray)) = some false) := by
        intro g
        have HC := contains_f t
        have : mk2 t = false := by
          cases hm : mk2 t
          · rfl
          · exact absurd ⟨g, hm⟩ m2
        rw [this] at HC
        exact HC
      by_cases m1 : mk1 c = true
      · have hx : 0 ≤ Lib.indexByte onesT.data.toList c.toNat.toUInt8 := of_decide_eq_true m1
        rw [if_pos m1, if_neg (by decide)]
        by_cases e : op = []
        · rw [if_pos (Or.inl e)]
          by_cases g : 1 < t.size
          · exact mark_one_long W i hi hs ht hol hext hts hc h3 g (hlong g) _ rfl hx e h hT
          · exact mark_one_short W i hi hs ht hol hext hts hc h3 g _ rfl hx e h hT
        · obtain ⟨m, hm⟩ := hne e
          have hm1 : op.length - 1 = m := by omega
          rw [if_neg (by simp [e]), hm1]
          by_cases c0 : c = 40
          · rw [if_pos c0]
            by_cases g : 1 < t.size
            · exact mark_opens_long W i hi hs ht hol hext hts hc h3 g (hlong g) _ rfl hx m hm (hlast m hm) c0 h hT
            · exact mark_opens_short W i hi hs ht hol hext hts hc h3 g _ rfl hx m hm (hlast m hm) c0 h hT
          · rw [if_neg c0]
            by_cases c1 : c = 41
            · rw [if_pos c1]
              by_cases y0 : op.getD m 0 = 0
              · rw [if_pos y0]
                by_cases g : 1 < t.size
                · exact mark_back_long W i hi hs ht hol hext hts hc h3 g (hlong g) _ rfl hx m hm c1 y0 h hT
                · exact mark_back_short W i hi hs ht hol hext hts hc h3 g _ rfl hx m hm c1 y0 h hT
              · rw [if_neg y0]
                by_cases g : 1 < t.size
                · exact mark_closes_long W i hi hs ht hol hext hts hc h3 g (hlong g) _ rfl hx m hm (hlast m hm) c1 y0 h hT
                · exact mark_closes_short W i hi hs ht hol hext hts hc h3 g _ rfl hx m hm (hlast m hm) c1 y0 h hT
            · rw [if_neg c1]
              by_cases g : 1 < t.size
              · exact mark_one_in_long W i hi hs ht hol hext hts hc h3 g (hlong g) _ rfl hx m hm c0 c1 h hT
              · exact mark_one_in_short W i hi hs ht hol hext hts hc h3 g _ rfl hx m hm c0 c1 h hT
      · have hx : ¬ 0 ≤ Lib.indexByte onesT.data.toList c.toNat.toUInt8 := fun g => m1 (decide_eq_true g)
        rw [if_neg m1, if_pos rfl]
        by_cases g : 1 < t.size
        · exact mark_none_long W i hi hs ht hol hext hts hc h3 g (hlong g) _ rfl hx h hT
        · exact mark_none_short W i hi hs ht hol hext hts hc h3 g _ rfl hx h hT

set_option maxHeartbeats 8000000 in
set_option maxRecDepth 100000 in
theorem one_mark {B b : Nat} {s : ByteArray} {toks : List Tok} {op : List Int} {vt vo : Value} (W : World) (i : Nat) (hi : i < s.size) (hs : s.size ≤ 1073741824) (ht : toks.length ≤ i) (hol : op.length ≤ i) (hop : ∀ y ∈ op, 0 ≤ y ∧ y ≤ (i : Int)) (c : Int) (hcc : bt s (i : Int) = c) (n34 : ¬ c = 34) (n36 : ¬ c = 36) (n46 : ¬ c = 46) (HL : Hid (word_isLetter.f c = some false)) (HG : Hid (word_isDigit.f c = some false)) (h : Sc B b s i toks op 0 0 vt vo W) (hT : Tabs W) :
    Calls Tryd.prog 19 #[.pointer (some ⟨b, 0, none⟩)] W fun r w' => r = .returned (.tuple #[]) ∧ OneEnd B b s i toks op (markR s i op) w' ∧ Below B W w' := by
  have c0 := h.c0
  have c1 := h.c1
  have hi0 : (0 : Int) ≤ (i : Int) := by omega
  have hi1 : (i : Int) < (s.size : Int) := by omega
  have hb0 := bt_at s (i : Int) hi
  rw [hcc] at hb0
  have hx : ((s[i]'hi).toNat : Int) = c := hb0
  clear hb0 hcc
  have hlow := h.low
  have hlt := h.lt
  have H := Lib.hid h
  have HT := Lib.hid hT
  have HOP := Lib.hid hop
  clear h hT hop
  have b36 : (c == 36) = false := beq_eq_false_iff_ne.2 n36
  have b46 : (c == 46) = false := beq_eq_false_iff_ne.2 n46
  go_enter Tryd.func19, Tryd.ntmps19
  go_wp2_with fail
  go_quiet (fail)
  all_goals
    have hx1 : Hid ((W.drewN nq).heap = W.heap) := rfl
    have bx1 : Below B W (W.drewN nq) := by apply pw_below_drewN; exact Below.refl _ _
    generalize W.drewN nq = x1 at hx1 bx1 ⊢
    clear c0 c1
    have c0 := (Sc.of_heap hx1.out H.out).c0
    have c1 := (Sc.of_heap hx1.out H.out).c1
    go_wp2_with (first
      | (go_at_call 33; (with_reducible refine (word_isLetter.calls c _ _ HL.out).mono ?_); rintro e0 w2 ⟨rfl, ⟨nl, rfl⟩⟩))
    have hx2 : Hid ((x1.drewN nl).heap = W.heap) := hx1.out
    have bx2 : Below B W (x1.drewN nl) := by apply pw_below_drewN; exact bx1
    generalize x1.drewN nl = x2 at hx2 bx2 ⊢
    clear c0 c1
    have c0 := (Sc.of_heap hx2.out H.out).c0
    have c1 := (Sc.of_heap hx2.out H.out).c1
    go_quiet (fail)
    all_goals
      have hx3 : Hid ((x2.drewN nq).heap = W.heap) := hx2.out
      have bx3 : Below B W (x2.drewN nq) := by apply pw_below_drewN; exact bx2
      generalize x2.drewN nq = x3 at hx3 bx3 ⊢
      clear c0 c1
      have c0 := (Sc.of_heap hx3.out H.out).c0
      have c1 := (Sc.of_heap hx3.out H.out).c1
      have hmk := fun k => mark_calls (x3.drewN k) i hi hs ht hol HOP.out (Sc.of_heap (W := W) (W1 := x3.drewN k) hx3.out H.out) (Tabs.of_heap (w := W) (w' := x3.drewN k) HT.out hx3.out)
      go_wp2_with (first
        | (go_at_call 38; (with_reducible refine (word_isDigit.calls c _ _ HG.out).mono ?_); rintro e0 w2 ⟨rfl, ⟨ng, rfl⟩⟩)
        | (go_at_call 41; (with_reducible refine (hmk _).mono ?_); rintro e0 w5 ⟨rfl, S5, hb5⟩))
      go_end0
      exact ⟨rfl, S5, Below.trans (by apply pw_below_drewN; exact bx3) hb5⟩

set_option maxHeartbeats 8000000 in
set_option maxRecDepth 100000 in
theorem one_mark_end_36 {B b : Nat} {s : ByteArray} {toks : List Tok} {op : List Int} {vt vo : Value} (W : World) (i : Nat) (hi : i < s.size) (hs : s.size ≤ 1073741824) (ht : toks.length ≤ i) (hol : op.length ≤ i) (hop : ∀ y ∈ op, 0 ≤ y ∧ y ≤ (i : Int)) (c : Int) (hcc : bt s (i : Int) = c) (hlit : c = 36) (hend : ¬ i + 1 < s.size) (h : Sc B b s i toks op 0 0 vt vo W) (hT : Tabs W) :
    Calls Tryd.prog 19 #[.pointer (some ⟨b, 0, none⟩)] W fun r w' => r = .returned (.tuple #[]) ∧ OneEnd B b s i toks op (markR s i op) w' ∧ Below B W w' := by
  subst hlit
  have c0 := h.c0
  have c1 := h.c1
  have hi0 : (0 : Int) ≤ (i : Int) := by omega
  have hi1 : (i : Int) < (s.size : Int) := by omega
  have hb0 := bt_at s (i : Int) hi
  rw [hcc] at hb0
  have hx : ((s[i]'hi).toNat : Int) = 36 := hb0
  clear hb0 hcc
  have hlow := h.low
  have hlt := h.lt
  have H := Lib.hid h
  have HT := Lib.hid hT
  have HOP := Lib.hid hop
  clear h hT hop
  have HL : Hid (word_isLetter.f 36 = some false) := by
    show word_isLetter.f 36 = some false
    rfl
  have HG : Hid (word_isDigit.f 36 = some false) := by
    show word_isDigit.f 36 = some false
    rfl
  go_enter Tryd.func19, Tryd.ntmps19
  go_wp2_with fail
  go_quiet (fail)
  all_goals
    have hx1 : Hid ((W.drewN nq).heap = W.heap) := rfl
    have bx1 : Below B W (W.drewN nq) := by apply pw_below_drewN; exact Below.refl _ _
    generalize W.drewN nq = x1 at hx1 bx1 ⊢
    clear c0 c1
    have c0 := (Sc.of_heap hx1.out H.out).c0
    have c1 := (Sc.of_heap hx1.out H.out).c1
    go_wp2_with (first
      | (go_at_call 33; (with_reducible refine (word_isLetter.calls 36 _ _ HL.out).mono ?_); rintro e0 w2 ⟨rfl, ⟨nl, rfl⟩⟩))
    have hx2 : Hid ((x1.drewN nl).heap = W.heap) := hx1.out
    have bx2 : Below B W (x1.drewN nl) := by apply pw_below_drewN; exact bx1
    generalize x1.drewN nl = x2 at hx2 bx2 ⊢
    clear c0 c1
    have c0 := (Sc.of_heap hx2.out H.out).c0
    have c1 := (Sc.of_heap hx2.out H.out).c1
    have w1 : IntKind.i64.wrap ((i : Int) + 1) = (i : Int) + 1 := IntWalk.i64_in _ (by omega)
    have w2 : (0 : Int) ≤ (i : Int) + 1 := by omega
    have w4 : ((i : Int) + 1).toNat = i + 1 := by omega
    have w3 : decide ((i : Int) + 1 < (s.size : Int)) = false := decide_eq_false (by omega)
    go_quiet (fail)
    all_goals
      have hx3 : Hid ((x2.drewN nq).heap = W.heap) := hx2.out
      have bx3 : Below B W (x2.drewN nq) := by apply pw_below_drewN; exact bx2
      generalize x2.drewN nq = x3 at hx3 bx3 ⊢
      clear c0 c1
      have c0 := (Sc.of_heap hx3.out H.out).c0
      have c1 := (Sc.of_heap hx3.out H.out).c1
      have hmk := fun k => mark_calls (x3.drewN k) i hi hs ht hol HOP.out (Sc.of_heap (W := W) (W1 := x3.drewN k) hx3.out H.out) (Tabs.of_heap (w := W) (w' := x3.drewN k) HT.out hx3.out)
      go_wp2_with (first
        | (go_at_call 38; (with_reducible refine (word_isDigit.calls 36 _ _ HG.out).mono ?_); rintro e0 w2 ⟨rfl, ⟨ng, rfl⟩⟩)
        | (go_at_call 41; (with_reducible refine (hmk _).mono ?_); rintro e0 w5 ⟨rfl, S5, hb5⟩))
      go_end0
      exact ⟨rfl, S5, Below.trans (by apply pw_below_drewN; exact bx3) hb5⟩

set_option maxHeartbeats 8000000 in
set_option maxRecDepth 100000 in
theorem one_mark_next_36 {B b : Nat} {s : ByteArray} {toks : List Tok} {op : List Int} {vt vo : Value} (W : World) (i : Nat) (hi : i < s.size) (hs : s.size ≤ 1073741824) (ht : toks.length ≤ i) (hol : op.length ≤ i) (hop : ∀ y ∈ op, 0 ≤ y ∧ y ≤ (i : Int)) (c : Int) (hcc : bt s (i : Int) = c) (hlit : c = 36) (hin : i + 1 < s.size) (d : Int) (hdd : bt s ((i + 1 : Nat) : Int) = d) (HD : Hid (word_isLetter.f d = some false)) (h : Sc B b s i toks op 0 0 vt vo W) (hT : Tabs W) :
    Calls Tryd.prog 19 #[.pointer (some ⟨b, 0, none⟩)] W fun r w' => r = .returned (.tuple #[]) ∧ OneEnd B b s i toks op (markR s i op) w' ∧ Below B W w' := by
  subst hlit
  have c0 := h.c0
  have c1 := h.c1
  have hi0 : (0 : Int) ≤ (i : Int) := by omega
  have hi1 : (i : Int) < (s.size : Int) := by omega
  have hb0 := bt_at s (i : Int) hi
  rw [hcc] at hb0
  have hx : ((s[i]'hi).toNat : Int) = 36 := hb0
  clear hb0 hcc
  have hlow := h.low
  have hlt := h.lt
  have H := Lib.hid h
  have HT := Lib.hid hT
  have HOP := Lib.hid hop
  clear h hT hop
  have HL : Hid (word_isLetter.f 36 = some false) := by
    show word_isLetter.f 36 = some false
    rfl
  have HG : Hid (word_isDigit.f 36 = some false) := by
    show word_isDigit.f 36 = some false
    rfl
  have hb1 := bt_at s ((i + 1 : Nat) : Int) hin
  rw [hdd] at hb1
  have hx1 : ((s[i + 1]'hin).toNat : Int) = d := hb1
  clear hb1 hdd
  go_enter Tryd.func19, Tryd.ntmps19
  go_wp2_with fail
  go_quiet (fail)
  all_goals
    have hx1 : Hid ((W.drewN nq).heap = W.heap) := rfl
    have bx1 : Below B W (W.drewN nq) := by apply pw_below_drewN; exact Below.refl _ _
    generalize W.drewN nq = x1 at hx1 bx1 ⊢
    clear c0 c1
    have c0 := (Sc.of_heap hx1.out H.out).c0
    have c1 := (Sc.of_heap hx1.out H.out).c1
    go_wp2_with (first
      | (go_at_call 33; (with_reducible refine (word_isLetter.calls 36 _ _ HL.out).mono ?_); rintro e0 w2 ⟨rfl, ⟨nl, rfl⟩⟩))
    have hx2 : Hid ((x1.drewN nl).heap = W.heap) := hx1.out
    have bx2 : Below B W (x1.drewN nl) := by apply pw_below_drewN; exact bx1
    generalize x1.drewN nl = x2 at hx2 bx2 ⊢
    clear c0 c1
    have c0 := (Sc.of_heap hx2.out H.out).c0
    have c1 := (Sc.of_heap hx2.out H.out).c1
    have w1 : IntKind.i64.wrap ((i : Int) + 1) = (i : Int) + 1 := IntWalk.i64_in _ (by omega)
    have w2 : (0 : Int) ≤ (i : Int) + 1 := by omega
    have w4 : ((i : Int) + 1).toNat = i + 1 := by omega
    have w3 : (i : Int) + 1 < (s.size : Int) := by omega
    go_quiet ((go_at_call 33; exact q_letter d false HD.out _ _))
    all_goals
      have hx3 : Hid ((x2.drewN nq).heap = W.heap) := hx2.out
      have bx3 : Below B W (x2.drewN nq) := by apply pw_below_drewN; exact bx2
      generalize x2.drewN nq = x3 at hx3 bx3 ⊢
      clear c0 c1
      have c0 := (Sc.of_heap hx3.out H.out).c0
      have c1 := (Sc.of_heap hx3.out H.out).c1
      have hmk := fun k => mark_calls (x3.drewN k) i hi hs ht hol HOP.out (Sc.of_heap (W := W) (W1 := x3.drewN k) hx3.out H.out) (Tabs.of_heap (w := W) (w' := x3.drewN k) HT.out hx3.out)
      go_wp2_with (first
        | (go_at_call 38; (with_reducible refine (word_isDigit.calls 36 _ _ HG.out).mono ?_); rintro e0 w2 ⟨rfl, ⟨ng, rfl⟩⟩)
        | (go_at_call 41; (with_reducible refine (hmk _).mono ?_); rintro e0 w5 ⟨rfl, S5, hb5⟩))
      go_end0
      exact ⟨rfl, S5, Below.trans (by apply pw_below_drewN; exact bx3) hb5⟩

set_option maxHeartbeats 8000000 in
set_option maxRecDepth 100000 in
theorem one_mark_end_46 {B b : Nat} {s : ByteArray} {toks : List Tok} {op : List Int} {vt vo : Value} (W : World) (i : Nat) (hi : i < s.size) (hs : s.size ≤ 1073741824) (ht : toks.length ≤ i) (hol : op.length ≤ i) (hop : ∀ y ∈ op, 0 ≤ y ∧ y ≤ (i : Int)) (c : Int) (hcc : bt s (i : Int) = c) (hlit : c = 46) (hend : ¬ i + 1 < s.size) (h : Sc B b s i toks op 0 0 vt vo W) (hT : Tabs W) :
    Calls Tryd.prog 19 #[.pointer (some ⟨b, 0, none⟩)] W fun r w' => r = .returned (.tuple #[]) ∧ OneEnd B b s i toks op (markR s i op) w' ∧ Below B W w' := by
  subst hlit
  have c0 := h.c0
  have c1 := h.c1
  have hi0 : (0 : Int) ≤ (i : Int) := by omega
  have hi1 : (i : Int) < (s.size : Int) := by omega
  have hb0 := bt_at s (i : Int) hi
  rw [hcc] at hb0
  have hx : ((s[i]'hi).toNat : Int) = 46 := hb0
  clear hb0 hcc
  have hlow := h.low
  have hlt := h.lt
  have H := Lib.hid h
  have HT := Lib.hid hT
  have HOP := Lib.hid hop
  clear h hT hop
  have HL : Hid (word_isLetter.f 46 = some false) := by
    show word_isLetter.f 46 = some false
    rfl
  have HG : Hid (word_isDigit.f 46 = some false) := by
    show word_isDigit.f 46 = some false
    rfl
  go_enter Tryd.func19, Tryd.ntmps19
  go_wp2_with fail
  go_quiet (fail)
  all_goals
    have hx1 : Hid ((W.drewN nq).heap = W.heap) := rfl
    have bx1 : Below B W (W.drewN nq) := by apply pw_below_drewN; exact Below.refl _ _
    generalize W.drewN nq = x1 at hx1 bx1 ⊢
    clear c0 c1
    have c0 := (Sc.of_heap hx1.out H.out).c0
    have c1 := (Sc.of_heap hx1.out H.out).c1
    go_wp2_with (first
      | (go_at_call 33; (with_reducible refine (word_isLetter.calls 46 _ _ HL.out).mono ?_); rintro e0 w2 ⟨rfl, ⟨nl, rfl⟩⟩))
    have hx2 : Hid ((x1.drewN nl).heap = W.heap) := hx1.out
    have bx2 : Below B W (x1.drewN nl) := by apply pw_below_drewN; exact bx1
    generalize x1.drewN nl = x2 at hx2 bx2 ⊢
    clear c0 c1
    have c0 := (Sc.of_heap hx2.out H.out).c0
    have c1 := (Sc.of_heap hx2.out H.out).c1
    have w1 : IntKind.i64.wrap ((i : Int) + 1) = (i : Int) + 1 := IntWalk.i64_in _ (by omega)
    have w2 : (0 : Int) ≤ (i : Int) + 1 := by omega
    have w4 : ((i : Int) + 1).toNat = i + 1 := by omega
    have w3 : decide ((i : Int) + 1 < (s.size : Int)) = false := decide_eq_false (by omega)
    go_quiet (fail)
    all_goals
      have hx3 : Hid ((x2.drewN nq).heap = W.heap) := hx2.out
      have bx3 : Below B W (x2.drewN nq) := by apply pw_below_drewN; exact bx2
      generalize x2.drewN nq = x3 at hx3 bx3 ⊢
      clear c0 c1
      have c0 := (Sc.of_heap hx3.out H.out).c0
      have c1 := (Sc.of_heap hx3.out H.out).c1
      have hmk := fun k => mark_calls (x3.drewN k) i hi hs ht hol HOP.out (Sc.of_heap (W := W) (W1 := x3.drewN k) hx3.out H.out) (Tabs.of_heap (w := W) (w' := x3.drewN k) HT.out hx3.out)
      go_wp2_with (first
        | (go_at_call 38; (with_reducible refine (word_isDigit.calls 46 _ _ HG.out).mono ?_); rintro e0 w2 ⟨rfl, ⟨ng, rfl⟩⟩)
        | (go_at_call 41; (with_reducible refine (hmk _).mono ?_); rintro e0 w5 ⟨rfl, S5, hb5⟩))
      go_end0
      exact ⟨rfl, S5, Below.trans (by apply pw_below_drewN; exact bx3) hb5⟩

set_option maxHeartbeats 8000000 in
set_option maxRecDepth 100000 in
theorem one_mark_next_46 {B b : Nat} {s : ByteArray} {toks : List Tok} {op : List Int} {vt vo : Value} (W : World) (i : Nat) (hi : i < s.size) (hs : s.size ≤ 1073741824) (ht : toks.length ≤ i) (hol : op.length ≤ i) (hop : ∀ y ∈ op, 0 ≤ y ∧ y ≤ (i : Int)) (c : Int) (hcc : bt s (i : Int) = c) (hlit : c = 46) (hin : i + 1 < s.size) (d : Int) (hdd : bt s ((i + 1 : Nat) : Int) = d) (HD : Hid (word_isLetter.f d = some false)) (h : Sc B b s i toks op 0 0 vt vo W) (hT : Tabs W) :
    Calls Tryd.prog 19 #[.pointer (some ⟨b, 0, none⟩)] W fun r w' => r = .returned (.tuple #[]) ∧ OneEnd B b s i toks op (markR s i op) w' ∧ Below B W w' := by
  subst hlit
  have c0 := h.c0
  have c1 := h.c1
  have hi0 : (0 : Int) ≤ (i : Int) := by omega
  have hi1 : (i : Int) < (s.size : Int) := by omega
  have hb0 := bt_at s (i : Int) hi
  rw [hcc] at hb0
  have hx : ((s[i]'hi).toNat : Int) = 46 := hb0
  clear hb0 hcc
  have hlow := h.low
  have hlt := h.lt
  have H := Lib.hid h
  have HT := Lib.hid hT
  have HOP := Lib.hid hop
  clear h hT hop
  have HL : Hid (word_isLetter.f 46 = some false) := by
    show word_isLetter.f 46 = some false
    rfl
  have HG : Hid (word_isDigit.f 46 = some false) := by
    show word_isDigit.f 46 = some false
    rfl
  have hb1 := bt_at s ((i + 1 : Nat) : Int) hin
  rw [hdd] at hb1
  have hx1 : ((s[i + 1]'hin).toNat : Int) = d := hb1
  clear hb1 hdd
  go_enter Tryd.func19, Tryd.ntmps19
  go_wp2_with fail
  go_quiet (fail)
  all_goals
    have hx1 : Hid ((W.drewN nq).heap = W.heap) := rfl
    have bx1 : Below B W (W.drewN nq) := by apply pw_below_drewN; exact Below.refl _ _
    generalize W.drewN nq = x1 at hx1 bx1 ⊢
    clear c0 c1
    have c0 := (Sc.of_heap hx1.out H.out).c0
    have c1 := (Sc.of_heap hx1.out H.out).c1
    go_wp2_with (first
      | (go_at_call 33; (with_reducible refine (word_isLetter.calls 46 _ _ HL.out).mono ?_); rintro e0 w2 ⟨rfl, ⟨nl, rfl⟩⟩))
    have hx2 : Hid ((x1.drewN nl).heap = W.heap) := hx1.out
    have bx2 : Below B W (x1.drewN nl) := by apply pw_below_drewN; exact bx1
    generalize x1.drewN nl = x2 at hx2 bx2 ⊢
    clear c0 c1
    have c0 := (Sc.of_heap hx2.out H.out).c0
    have c1 := (Sc.of_heap hx2.out H.out).c1
    have w1 : IntKind.i64.wrap ((i : Int) + 1) = (i : Int) + 1 := IntWalk.i64_in _ (by omega)
    have w2 : (0 : Int) ≤ (i : Int) + 1 := by omega
    have w4 : ((i : Int) + 1).toNat = i + 1 := by omega
    have w3 : (i : Int) + 1 < (s.size : Int) := by omega
    go_quiet ((go_at_call 33; exact q_letter d false HD.out _ _))
    all_goals
      have hx3 : Hid ((x2.drewN nq).heap = W.heap) := hx2.out
      have bx3 : Below B W (x2.drewN nq) := by apply pw_below_drewN; exact bx2
      generalize x2.drewN nq = x3 at hx3 bx3 ⊢
      clear c0 c1
      have c0 := (Sc.of_heap hx3.out H.out).c0
      have c1 := (Sc.of_heap hx3.out H.out).c1
      have hmk := fun k => mark_calls (x3.drewN k) i hi hs ht hol HOP.out (Sc.of_heap (W := W) (W1 := x3.drewN k) hx3.out H.out) (Tabs.of_heap (w := W) (w' := x3.drewN k) HT.out hx3.out)
      go_wp2_with (first
        | (go_at_call 38; (with_reducible refine (word_isDigit.calls 46 _ _ HG.out).mono ?_); rintro e0 w2 ⟨rfl, ⟨ng, rfl⟩⟩)
        | (go_at_call 41; (with_reducible refine (hmk _).mono ?_); rintro e0 w5 ⟨rfl, S5, hb5⟩))
      go_end0
      exact ⟨rfl, S5, Below.trans (by apply pw_below_drewN; exact bx3) hb5⟩


def plainB (t : ByteArray) : Bool := (word_Plain.f t) == some true
theorem plain_some (t : ByteArray) (h : t.size ≤ 1073741824) : word_Plain.f t = some (plainB t) := by
  have : ∃ b, word_Plain.f t = some b := by
    have hn : ∃ b, word_Named.f t = some b := by
      unfold word_Named.f
      by_cases c : t.size = 0
      · rw [if_pos c]
        exact ⟨_, rfl⟩
      · rw [if_neg c, if_pos (by omega), letter_some, Option.bind_some]
        split <;> exact ⟨_, rfl⟩
    obtain ⟨b, hb⟩ := hn
    unfold word_Plain.f
    rw [hb, Option.bind_some]
    cases b
    · exact ⟨_, rfl⟩
    · rw [if_pos rfl, if_pos (by omega), if_pos (by omega)]
      unfold strings_Contains.f
      rw [if_pos (Or.inr (by decide)), Option.bind_some]
      exact ⟨_, rfl⟩
  obtain ⟨b, hb⟩ := this
  unfold plainB
  rw [hb]
  cases b <;> rfl

theorem formed_l0 (t : ByteArray) (h : t.size ≤ 1073741824) : ∀ (n i k : Nat), i + n = t.size → n < k → ∃ b, tens_Formed.l0 k t t.size i = some b
  | 0, i, k, hi, hk => by
    obtain ⟨k, rfl⟩ : ∃ m, k = m + 1 := ⟨k - 1, by omega⟩
    rw [tens_Formed.l0, if_neg (by omega)]
    exact ⟨_, rfl⟩
  | n + 1, i, k, hi, hk => by
    obtain ⟨k, rfl⟩ : ∃ m, k = m + 1 := ⟨k - 1, by omega⟩
    have hw : wrap64 ((i : Int) + 1) = ((i + 1 : Nat) : Int) := by unfold wrap64; omega
    have ih := formed_l0 t h n (i + 1) k (by omega) (by omega)
    rw [tens_Formed.l0, if_pos (by omega), if_pos (by omega), if_pos (by omega), hw]
    by_cases a : bt t (i : Int) < 48
    · rw [if_pos a]
      exact ⟨_, rfl⟩
    · rw [if_neg a]
      by_cases b : bt t (i : Int) > 57
      · rw [if_pos b]
        exact ⟨_, rfl⟩
      · rw [if_neg b]
        exact ih
theorem formed_j2 (t : ByteArray) (h : t.size ≤ 1073741824) (x : Bool) (k : Nat) (hk : t.size + 2 ≤ k) : ∃ b, tens_Formed.j2 k t x = some b := by
  obtain ⟨k, rfl⟩ : ∃ m, k = m + 1 := ⟨k - 1, by omega⟩
  rw [tens_Formed.j2]
  cases x
  · rw [if_neg (by decide)]
    exact formed_l0 t h t.size 0 k (by omega) (by omega)
  · exact ⟨_, rfl⟩
theorem formed_j1 (t : ByteArray) (h : t.size ≤ 1073741824) (k : Nat) (hk : t.size + 3 ≤ k) : ∃ b, tens_Formed.j1 k t = some b := by
  obtain ⟨k, rfl⟩ : ∃ m, k = m + 1 := ⟨k - 1, by omega⟩
  rw [tens_Formed.j1]
  by_cases a : t.toList = []
  · rw [if_pos a]
    exact formed_j2 t h _ k (by omega)
  · have h0 : 0 < t.size := by
      rcases Nat.eq_zero_or_pos t.size with e | e
      · exfalso
        apply a
        rw [ByteArray.toList_eq]
        exact List.eq_nil_of_length_eq_zero (by rw [← Lib.size_eq]; exact e)
      · exact e
    rw [if_neg a, if_pos (by omega)]
    exact formed_j2 t h _ k (by omega)
theorem formed_f (t : ByteArray) (h : t.size ≤ 1073741824) : ∃ b, tens_Formed.f (t.size + 6) t = some b := by
  have j0 : ∀ x : Bool, (x = true → 1 ≤ t.size) → ∃ b, tens_Formed.j0 (t.size + 6) t x = some b := by
    intro x hx
    rw [tens_Formed.j0]
    cases x
    · rw [if_neg (by decide)]
      exact formed_j1 t h _ (by omega)
    · have := hx rfl
      rw [if_pos rfl, if_pos (by omega)]
      exact formed_j1 _ (by rw [ByteArray.size_extract]; omega) _ (by rw [ByteArray.size_extract]; omega)
  unfold tens_Formed.f
  split
  · exact ⟨_, rfl⟩
  · split
    · exact j0 false (by simp)
    · rename_i a
      have h0 : 0 < t.size := by
        rcases Nat.eq_zero_or_pos t.size with e | e
        · exfalso
          apply a
          rw [ByteArray.toList_eq]
          exact List.eq_nil_of_length_eq_zero (by rw [← Lib.size_eq]; exact e)
        · exact e
      rw [if_pos (by omega)]
      exact j0 _ (fun _ => h0)
def formedB (t : ByteArray) : Bool := (tens_Formed.f (t.size + 6) t) == some true
theorem formed_some (t : ByteArray) (h : t.size ≤ 1073741824) : tens_Formed.f (t.size + 6) t = some (formedB t) := by
  obtain ⟨b, hb⟩ := formed_f t h
  unfold formedB
  rw [hb]
  cases b <;> rfl

/-- the token that begins at a place -/
def oneR (s : ByteArray) (i : Nat) (op : List Int) : OneR :=
  if bt s (i : Int) = 34 then pieceR 6 7 op (op ++ [0]) (pieceZ s s.size (i + 1) [])
  else if letterB (bt s (i : Int)) = true then ⟨0, runEnd inNameB s (s.size - i) i, if plainB (s.extract i (runEnd inNameB s (s.size - i) i)) = true then 1 else 2, s.extract i (runEnd inNameB s (s.size - i) i), op⟩
  else if (bt s (i : Int) = 36 ∨ bt s (i : Int) = 46) ∧ (i + 1 < s.size ∧ letterB (bt s ((i + 1 : Nat) : Int)) = true) then
    if bt s (i : Int) = 36 ∧ plainB (s.extract (i + 1) (runEnd inNameB s (s.size - (i + 1)) (i + 1))) = false then ⟨160, i, 0, ⟨#[]⟩, op⟩
    else ⟨0, runEnd inNameB s (s.size - (i + 1)) (i + 1), if bt s (i : Int) = 36 then 3 else 4, s.extract (i + 1) (runEnd inNameB s (s.size - (i + 1)) (i + 1)), op⟩
  else if digitB (bt s (i : Int)) = true then
    if formedB (s.extract i (runEnd numeralB s (s.size - i) i)) = true then ⟨0, runEnd numeralB s (s.size - i) i, 5, s.extract i (runEnd numeralB s (s.size - i) i), op⟩ else ⟨42, i, 0, ⟨#[]⟩, op⟩
  else markR s i op


theorem one_calls {B b : Nat} {s : ByteArray} {toks : List Tok} {op : List Int} {vt vo : Value} (W : World) (i : Nat) (hi : i < s.size) (hs : s.size ≤ 1073741824) (ht : toks.length ≤ i) (hol : op.length ≤ i) (hop : ∀ y ∈ op, 0 ≤ y ∧ y ≤ (i : Int)) (h : Sc B b s i toks op 0 0 vt vo W) (hT : Tabs W) :
    Calls Tryd.prog 19 #[.pointer (some ⟨b, 0, none⟩)] W fun r w' => r = .returned (.tuple #[]) ∧ OneEnd B b s i toks op (oneR s i op) w' ∧ Below B W w' := by
  have hsz : ∀ a e : Nat, (s.extract a e).size ≤ 1073741824 := by
    intro a e
    rw [ByteArray.size_extract]
    omega
  obtain ⟨c, hcc⟩ : ∃ c, bt s (i : Int) = c := ⟨_, rfl⟩
  unfold oneR
  rw [hcc]
  by_cases c34 : c = 34
  · rw [if_pos c34]
    exact one_quote W i hi hs ht hol hop c hcc c34 h hT
  rw [if_neg c34]
  by_cases hl : letterB c = true
  · rw [if_pos hl]
    have HL : Hid (word_isLetter.f c = some true) := by
      show word_isLetter.f c = some true
      rw [letter_some, hl]
    have HP := plain_some (s.extract i (runEnd inNameB s (s.size - i) i)) (hsz _ _)
    cases hp : plainB (s.extract i (runEnd inNameB s (s.size - i) i))
    · rw [hp] at HP
      exact one_name_false W i hi (by omega) ht hol hop c hcc (by omega) c34 HL _ rfl HP h hT
    · rw [hp] at HP
      exact one_name_true W i hi (by omega) ht hol hop c hcc (by omega) c34 HL _ rfl HP h hT
  rw [if_neg hl]
  have HL : Hid (word_isLetter.f c = some false) := by
    show word_isLetter.f c = some false
    rw [letter_some]
    simpa using hl
  by_cases hd : (c = 36 ∨ c = 46) ∧ (i + 1 < s.size ∧ letterB (bt s ((i + 1 : Nat) : Int)) = true)
  · rw [if_pos hd]
    obtain ⟨h1, hin, h2⟩ := hd
    have HD : Hid (word_isLetter.f (bt s ((i + 1 : Nat) : Int)) = some true) := by
      show word_isLetter.f _ = some true
      rw [letter_some, h2]
    rcases h1 with h1 | h1
    · have HP := plain_some (s.extract (i + 1) (runEnd inNameB s (s.size - (i + 1)) (i + 1))) (hsz _ _)
      cases hp : plainB (s.extract (i + 1) (runEnd inNameB s (s.size - (i + 1)) (i + 1)))
      · rw [hp] at HP
        rw [if_pos ⟨h1, rfl⟩]
        exact one_var_not W i hi hs ht hol hop c hcc h1 hin _ rfl HD _ rfl HP h hT
      · rw [hp] at HP
        rw [if_neg (by simp), if_pos h1]
        exact one_var W i hi hs ht hol hop c hcc h1 hin _ rfl HD _ rfl HP h hT
    · rw [if_neg (fun g => by omega), if_neg (by omega)]
      exact one_field W i hi hs ht hol hop c hcc h1 hin _ rfl HD _ rfl h hT
  rw [if_neg hd]
  by_cases hg : digitB c = true
  · rw [if_pos hg]
    have HG : Hid (word_isDigit.f c = some true) := by
      show word_isDigit.f c = some true
      rw [digit_some, hg]
    have d36 : ¬ c = 36 := by
      intro e
      rw [e] at hg
      exact absurd hg (by decide)
    have d46 : ¬ c = 46 := by
      intro e
      rw [e] at hg
      exact absurd hg (by decide)
    have HF := formed_some (s.extract i (runEnd numeralB s (s.size - i) i)) (hsz _ _)
    cases hf : formedB (s.extract i (runEnd numeralB s (s.size - i) i))
    · rw [hf] at HF
      exact one_number_false W i hi hs ht hol hop c hcc c34 d36 d46 HL HG _ rfl _ HF h hT
    · rw [hf] at HF
      exact one_number_true W i hi hs ht hol hop c hcc c34 d36 d46 HL HG _ rfl _ HF h hT
  rw [if_neg hg]
  have HG : Hid (word_isDigit.f c = some false) := by
    show word_isDigit.f c = some false
    rw [digit_some]
    simpa using hg
  have notl : i + 1 < s.size → (c = 36 ∨ c = 46) → Hid (word_isLetter.f (bt s ((i + 1 : Nat) : Int)) = some false) := by
    intro g1 g2
    show word_isLetter.f _ = some false
    rw [letter_some]
    have : ¬ letterB (bt s ((i + 1 : Nat) : Int)) = true := fun g => hd ⟨g2, g1, g⟩
    simpa using this
  by_cases d36 : c = 36
  · by_cases hin : i + 1 < s.size
    · exact one_mark_next_36 W i hi hs ht hol hop c hcc d36 hin _ rfl (notl hin (Or.inl d36)) h hT
    · exact one_mark_end_36 W i hi hs ht hol hop c hcc d36 hin h hT
  by_cases d46 : c = 46
  · by_cases hin : i + 1 < s.size
    · exact one_mark_next_46 W i hi hs ht hol hop c hcc d46 hin _ rfl (notl hin (Or.inr d46)) h hT
    · exact one_mark_end_46 W i hi hs ht hol hop c hcc d46 hin h hT
  exact one_mark W i hi hs ht hol hop c hcc c34 d36 d46 HL HG h hT


theorem pieceZ_range (s : ByteArray) (hs : s.size ≤ 1073741824) : ∀ (f p : Nat) (acc : List UInt8), p ≤ s.size → (pieceZ s f p acc).1 = 0 → p < (pieceZ s f p acc).2.1 ∧ (pieceZ s f p acc).2.1 ≤ s.size
  | 0, p, acc, _, h => by
    unfold pieceZ at h
    simp at h
  | f + 1, p, acc, hp, h => by
    unfold pieceZ at h ⊢
    by_cases c0 : p < s.size
    · rw [if_pos c0] at h ⊢
      have hw := Utf.at_width s p c0
      have hes : (s.extract p s.size).size = s.size - p := by rw [ByteArray.size_extract]; omega
      by_cases c1 : bt s (p : Int) = 34
      · rw [if_pos c1]
        exact ⟨Nat.lt_succ_self p, c0⟩
      · rw [if_neg c1] at h ⊢
        by_cases c2 : bt s (p : Int) = 92 ∧ (p + 1 < s.size ∧ bt s ((p + 1 : Nat) : Int) = 40)
        · rw [if_pos c2]
          have := c2.2.1
          exact ⟨by show p < p + 2; omega, by show p + 2 ≤ _; omega⟩
        · rw [if_neg c2] at h ⊢
          by_cases c3 : bt s (p : Int) = 92
          · rw [if_pos c3] at h ⊢
            by_cases c4 : (escT (s.extract p s.size)).2.2 = 0
            · rw [if_pos c4] at h ⊢
              have her := escT_range (s.extract p s.size) c4
              rw [hes] at her
              have := pieceZ_range s hs f (p + (escT (s.extract p s.size)).2.1.toNat) _ (by omega) h
              omega
            · rw [if_neg c4] at h
              exact absurd h c4
          · rw [if_neg c3] at h ⊢
            by_cases c4 : bt s (p : Int) < 32
            · rw [if_pos c4] at h
              exact absurd (show (22 : Int) = 0 from h) (by decide)
            · rw [if_neg c4] at h ⊢
              by_cases c5 : (Utf8.decode s p).1 = 65533 ∧ (Utf8.decode s p).2 = 1
              · rw [if_pos c5] at h
                exact absurd (show (20 : Int) = 0 from h) (by decide)
              · rw [if_neg c5] at h ⊢
                have := pieceZ_range s hs f (p + (Utf8.decode s p).2) _ (by omega) h
                omega
    · rw [if_neg c0] at h
      exact absurd (show (21 : Int) = 0 from h) (by decide)

theorem runEnd_step (p : Int → Bool) (s : ByteArray) (i : Nat) (hi : i < s.size) (h : p (bt s (i : Int)) = true) : i < runEnd p s (s.size - i) i ∧ runEnd p s (s.size - i) i ≤ s.size := by
  obtain ⟨g, hg⟩ : ∃ g, s.size - i = g + 1 := ⟨s.size - i - 1, by omega⟩
  have := runEnd_bounds p s g (i + 1) (by omega)
  rw [hg]
  unfold runEnd
  rw [if_pos hi, if_pos h]
  omega
theorem letter_name (c : Int) (h : letterB c = true) : inNameB c = true := by
  have hl := letter_some c
  unfold inNameB word_inName.f
  rw [hl, h]
  rfl
theorem digit_name (c : Int) (h : digitB c = true) : inNameB c = true := by
  have hd := digit_some c
  obtain ⟨b, hb⟩ := isLetter_some c
  unfold inNameB word_inName.f
  rw [hb, hd, h]
  cases b <;> rfl
theorem digit_numeral (c : Int) (h : digitB c = true) : numeralB c = true := by
  unfold numeralB word_inNumeral.f
  rw [inName_some, digit_name c h]
  rfl
theorem markSz_le (t : ByteArray) (h : 0 < t.size) : markSz t ≤ t.size := by
  unfold markSz
  split
  · rename_i g
    have := hasPrefix_le' g
    rw [← Lib.size_eq] at this
    exact this
  · split
    · rename_i g
      have := g.1
      omega
    · split
      · omega
      · omega

/-- what is open stays small -/
def Fits (l : List Int) (p : Nat) : Prop := l.length ≤ p ∧ ∀ y ∈ l, 0 ≤ y ∧ y ≤ (p : Int)
theorem Fits.mono {l : List Int} {p q : Nat} (h : Fits l p) (hpq : p ≤ q) : Fits l q := ⟨by have := h.1; omega, fun y hy => by have := h.2 y hy; omega⟩
theorem Fits.snoc {l : List Int} {p : Nat} (h : Fits l p) : Fits (l ++ [0]) (p + 1) := by
  refine ⟨by rw [List.length_append]; have := h.1; simp; omega, fun y hy => ?_⟩
  rcases List.mem_append.1 hy with g | g
  · have := h.2 y g
    omega
  · rw [List.mem_singleton.1 g]
    omega
theorem Fits.drop {l : List Int} {p : Nat} (h : Fits l p) : Fits l.dropLast p := by
  refine ⟨by rw [List.length_dropLast]; have := h.1; omega, fun y hy => h.2 y (List.dropLast_subset l hy)⟩
theorem Fits.set {l : List Int} {p : Nat} (h : Fits l p) (m : Nat) (y : Int) (h0 : 0 ≤ y) (h1 : y ≤ (p : Int) + 1) : Fits (l.set m y) (p + 1) := by
  refine ⟨by rw [List.length_set]; have := h.1; omega, fun x hx => ?_⟩
  rcases List.mem_or_eq_of_mem_set hx with g | g
  · have := h.2 x g
    omega
  · rw [g]
    omega
theorem Fits.last {l : List Int} {p : Nat} (h : Fits l p) (m : Nat) : 0 ≤ l.getD m 0 ∧ l.getD m 0 ≤ (p : Int) := by
  rw [List.getD_eq_getElem?_getD]
  by_cases g : m < l.length
  · rw [List.getElem?_eq_getElem g]
    exact h.2 _ (List.getElem_mem g)
  · rw [List.getElem?_eq_none (by omega)]
    simp

def OneOk (s : ByteArray) (i : Nat) (r : OneR) : Prop := r.e = 0 → i < r.pos ∧ r.pos ≤ s.size ∧ Fits r.op r.pos
theorem piece_ok (s : ByteArray) (hs : s.size ≤ 1073741824) (i : Nat) (hi : i < s.size) (last more : Int) (opL opM : List Int) (hL : Fits opL (i + 1)) (hM : Fits opM (i + 1)) : OneOk s i (pieceR last more opL opM (pieceZ s s.size (i + 1) [])) := by
  intro h
  have hr := pieceZ_range s hs s.size (i + 1) [] (by omega) h
  refine ⟨by show i < (pieceZ s s.size (i + 1) []).2.1; omega, hr.2, ?_⟩
  show Fits (if _ then opL else opM) (pieceZ s s.size (i + 1) []).2.1
  split
  · exact hL.mono (by omega)
  · exact hM.mono (by omega)
theorem mark_ok (s : ByteArray) (hs : s.size ≤ 1073741824) (i : Nat) (hi : i < s.size) (op : List Int) (hF : Fits op i) : OneOk s i (markR s i op) := by
  have hes : (s.extract i s.size).size = s.size - i := by rw [ByteArray.size_extract]; omega
  have hz := markSz_le (s.extract i s.size) (by omega)
  have hl := hF.last (op.length - 1)
  rw [hes] at hz
  unfold markR
  split
  · intro h
    exact absurd (show (160 : Int) = 0 from h) (by decide)
  · split
    · intro _
      exact ⟨by show i < i + markSz _; omega, by show i + markSz _ ≤ _; omega, hF.mono (by show i ≤ i + markSz _; omega)⟩
    · split
      · intro _
        exact ⟨Nat.lt_succ_self i, hi, hF.set _ _ (by omega) (by omega)⟩
      · split
        · split
          · exact piece_ok s hs i hi 9 8 _ _ (hF.drop.mono (by omega)) (hF.mono (by omega))
          · intro _
            exact ⟨Nat.lt_succ_self i, hi, hF.set _ _ (by omega) (by omega)⟩
        · intro _
          exact ⟨Nat.lt_succ_self i, hi, hF.mono (by show i ≤ i + 1; omega)⟩

theorem oneR_range (s : ByteArray) (i : Nat) (op : List Int) (hi : i < s.size) (hs : s.size ≤ 1073741824) (hF : Fits op i) : OneOk s i (oneR s i op) := by
  unfold oneR
  split
  · exact piece_ok s hs i hi 6 7 _ _ (hF.mono (by omega)) hF.snoc
  · split
    · rename_i h
      have := runEnd_step inNameB s i hi (letter_name _ h)
      intro _
      exact ⟨this.1, this.2, hF.mono (by show i ≤ runEnd _ _ _ _; omega)⟩
    · split
      · rename_i h
        have := runEnd_step inNameB s (i + 1) h.2.1 (letter_name _ h.2.2)
        split
        · intro g
          exact absurd (show (160 : Int) = 0 from g) (by decide)
        · intro _
          exact ⟨by show i < runEnd _ _ _ _; omega, this.2, hF.mono (by show i ≤ runEnd _ _ _ _; omega)⟩
      · split
        · rename_i h
          have := runEnd_step numeralB s i hi (digit_numeral _ h)
          split
          · intro _
            exact ⟨this.1, this.2, hF.mono (by show i ≤ runEnd _ _ _ _; omega)⟩
          · intro g
            exact absurd (show (42 : Int) = 0 from g) (by decide)
        · exact mark_ok s hs i hi op hF

end Go.Proofs.YthlmhnlfcnpocaaDoor.U

namespace Go.Proofs.YthlmhnlfcnpocaaDoor.U
open Go.RowKit Go.Proofs.YthlmhnlfcnpocaaDoorW.PrintWords
set_option linter.unusedSimpArgs false
set_option linter.unusedVariables false

/-- the tokens from a place on, once some are found -/
def scanZ (s : ByteArray) : Nat → Nat → List Tok → List Int → List Tok × Int × Int
  | 0, _, _, _ => ([], 21, s.size)
  | f + 1, i, toks, op =>
    if i < s.size then
      if (oneR s i op).e = 0 then scanZ s f (skipZ s (s.size + 1 - (oneR s i op).pos) (oneR s i op).pos) (toks ++ [⟨(oneR s i op).kind, i, (oneR s i op).pos, (oneR s i op).text⟩]) (oneR s i op).op
      else ([], (oneR s i op).e, (oneR s i op).pos)
    else if op = [] then (toks, 0, 0) else ([], 21, s.size)
def scanR (s : ByteArray) : List Tok × Int × Int := scanZ s (s.size + 1) (skipZ s (s.size + 1) 0) [] []

theorem skipZ_bounds (s : ByteArray) : ∀ f i, i ≤ s.size → i ≤ skipZ s f i ∧ skipZ s f i ≤ s.size
  | 0, i, h => ⟨Nat.le_refl _, h⟩
  | f + 1, i, h => by
    have h1 := runEnd_bounds blankB s (s.size - i) i h
    have h2 := runEnd_bounds remarkB s (s.size - runEnd blankB s (s.size - i) i) (runEnd blankB s (s.size - i) i) h1.2
    have h3 := skipZ_bounds s f (runEnd remarkB s (s.size - runEnd blankB s (s.size - i) i) (runEnd blankB s (s.size - i) i)) h2.2
    unfold skipZ
    split
    · omega
    · split
      · omega
      · omega

theorem reps_toks (w : World) (base : Nat) (ok : Nat → Prop) : ∀ (l acc : List Tok) (cs : List Value), Reps (k60.M w base ok) 4 acc cs → Reps (k60.M w base ok) 4 (acc ++ l) (cs ++ toksCells l)
  | [], acc, cs, h => by simpa [toksCells] using h
  | t :: l, acc, cs, h => by
    have h1 := Reps.snoc h (k60_mkM w base ok t) rfl
    have h2 := reps_toks w base ok l (acc ++ [t]) _ h1
    have e1 : acc ++ [t] ++ l = acc ++ t :: l := by simp
    have e2 : toksCells (t :: l) = tokCells t ++ toksCells l := rfl
    rw [e1, List.append_assoc] at h2
    rw [e2]
    exact h2
theorem toks_R {w : World} {base : Nat} {v : Value} {l : List Tok} (h : w.ownsRow base 60 4 v l.length (toksCells l)) : Kd.R k60 60 w base (fun _ => True) v l :=
  ⟨fun _ _ => trivial, toksCells l, h, by have := reps_toks w base (fun k => True ∧ some k ≠ v.ownBlock) l [] [] (Reps.none _ _); rw [List.nil_append, List.nil_append] at this; exact this⟩

set_option maxHeartbeats 8000000 in
set_option maxRecDepth 100000 in
theorem scan_body (s : ByteArray) (hs : s.size ≤ 1073741824) (R : List Tok × Int × Int) (hR : scanR s = R) (w : World) (hT : Tabs w) :
    Calls Tryd.prog 11 #[.string s] w fun e w' => ∃ v0_ : Value, e = .returned (.tuple #[v0_, .int .i64 R.2.1, .int .i64 R.2.2]) ∧ Kd.R k60 60 w' w.heap.size (fun _ => True) v0_ R.1 ∧ Below w.heap.size w w' := by
  have HR := Lib.hid hR
  have HT := Lib.hid hT
  clear hR hT
  have S0 : Hid (Sc w.heap.size w.heap.size s ((0 : Nat) : Int) [] [] 0 0 (.slice none 0 0) (.slice none 0 0) (w.alloc (.cells (scCells s 0 (.slice none 0 0) (.slice none 0 0) 0 0) 53))) :=
    ⟨heap_alloc_new w _, own_nil _ _ _ _, own_nil _ _ _ _, Nat.le_refl _⟩
  have hsk := skip_calls (w.alloc (.cells (scCells s 0 (.slice none 0 0) (.slice none 0 0) 0 0) 53)) 0 (Nat.zero_le _) (by omega) S0.out
  have hbd := skipZ_bounds s (s.size + 1) 0 (Nat.zero_le _)
  go_enter Tryd.func11, Tryd.ntmps11
  go_wp2_with (go_at_call 18; refine hsk.mono ?_; rintro e0 w1 ⟨rfl, S1, hb1⟩)
  have hB1 : Below w.heap.size w w1 := ((Below.refl _ w).alloc (Nat.le_refl _) _).trans hb1
  have S1h := Lib.hid S1
  clear S1 S0 hsk hb1
  go_loopg [] (s.size - skipZ s (s.size + 1) 0) (fun g wx => ∃ (i f : Nat) (toks : List Tok) (op : List Int) (vt vo : Value), Hid (scanZ s f i toks op = R) ∧ s.size < i + f ∧ i ≤ s.size ∧ g = s.size - i ∧ toks.length ≤ i ∧ Hid (Fits op i) ∧ Hid (Sc w.heap.size w.heap.size s i toks op 0 0 vt vo wx) ∧ Below w.heap.size w wx)
  case atStart => exact ⟨skipZ s (s.size + 1) 0, s.size + 1, [], [], _, _, HR, by omega, hbd.2, rfl, by simp, ⟨Nat.zero_le _, fun y hy => absurd hy List.not_mem_nil⟩, S1h, hB1⟩
  case round =>
    clear HR S1h hB1 hbd
    obtain ⟨i, f, toks, op, vt, vo, HU, hf, hi, hg, ht, HO, S, hb⟩ := hrel
    have c1 := S.out.c1
    have c3 := S.out.c3
    have c2 := S.out.c2
    have hi0 : (0 : Int) ≤ (i : Int) := by omega
    by_cases hp : i < s.size
    · obtain ⟨f, rfl⟩ : ∃ g, f = g + 1 := ⟨f - 1, by omega⟩
      have hone := one_calls wr i hp hs ht HO.out.1 HO.out.2 S.out (HT.out.below hb)
      have hrange := oneR_range s i op hp hs HO.out
      have hU := HU.out
      unfold scanZ at hU
      rw [if_pos hp] at hU
      have HU2 := Lib.hid hU
      clear HU hU
      obtain ⟨r, hr⟩ : ∃ r, oneR s i op = r := ⟨_, rfl⟩
      rw [hr] at hone hrange HU2
      clear hr
      obtain ⟨re, rp, rk, rt, ro⟩ := r
      unfold OneEnd at hone
      unfold OneOk at hrange
      simp only at hone hrange HU2
      by_cases he : re = 0
      · subst he
        obtain ⟨r1, r2, r3⟩ := hrange rfl
        have HF2 := Lib.hid r3
        have HU3 : Hid (scanZ s f (skipZ s (s.size + 1 - rp) rp) (toks ++ [⟨rk, i, rp, rt⟩]) ro = R) := by
          refine Eq.trans ?_ HU2.out
          rw [if_pos rfl]
        have hbd := skipZ_bounds s (s.size + 1 - rp) rp r2
        clear HU2 hrange r3
        go_wp2_with (go_at_call 19; (with_reducible refine hone.mono ?_); rintro e0 w2 ⟨rfl, (⟨_, vt2, vo2, S2⟩ | ⟨hz, _⟩), hb2⟩; rotate_left; exact absurd rfl hz; have S2h := Lib.hid S2; have c4 := S2.c4; clear S2; have hb3 := Lib.hid (hb.trans hb2); clear hb2)
        go_wp2_with (go_at_call 18; (with_reducible refine (skip_calls _ rp r2 (by omega) S2h.out).mono ?_); rintro e0 w3 ⟨rfl, S3, hb4⟩; have S3h := Lib.hid S3; clear S3)
        go_roundg (s.size - skipZ s (s.size + 1 - rp) rp)
        case measure => omega
        case rel => exact ⟨_, f, _, ro, vt2, vo2, HU3, by omega, hbd.2, rfl, by rw [List.length_append]; simp; omega, HF2.out.mono hbd.1, S3h, hb3.out.trans hb4⟩
      · have HU3 : Hid ((([] : List Tok), re, (rp : Int)) = R) := by
          refine Eq.trans ?_ HU2.out
          rw [if_neg he]
        clear HU2 hrange
        have hn : (re != 0) = true := bne_iff_ne.2 he
        go_wp2_with (go_at_call 19; (with_reducible refine hone.mono ?_); rintro e0 w2 ⟨rfl, (⟨hz, _⟩ | ⟨_, vt2, vo2, S2⟩), hb2⟩; exact absurd hz he; have S2h := Lib.hid S2; have c4 := S2.c4; have c5 := S2.c5; clear S2; have hb3 := Lib.hid (hb.trans hb2); clear hb2)
        go_quiet (fail)
        all_goals
          go_wp2
          rw [← HU3.out]
          go_ret3
          exact ⟨_, rfl, Kd.R_nil _ _ _ _ _, by apply pw_below_drewN; exact hb3.out⟩
    · have hU := HU.out
      by_cases ho : op = []
      · subst ho
        have HU3 : Hid ((toks, (0 : Int), (0 : Int)) = R) := by
          refine Eq.trans ?_ hU
          cases f with
          | zero => omega
          | succ f =>
            unfold scanZ
            rw [if_neg hp, if_pos rfl]
        clear HU hU
        obtain ⟨A, cp, rfl⟩ := own_slice S.out.opn
        go_wp2
        rw [← HU3.out]
        go_ret3
        exact ⟨_, rfl, toks_R S.out.tok, hb⟩
      · have HU3 : Hid ((([] : List Tok), (21 : Int), (s.size : Int)) = R) := by
          refine Eq.trans ?_ hU
          cases f with
          | zero => omega
          | succ f =>
            unfold scanZ
            rw [if_neg hp, if_neg ho]
        obtain ⟨A, cp, rfl⟩ := own_slice S.out.opn
        have hlo : (0 : Int) < (op.length : Int) := by have := List.length_pos_iff.2 ho; omega
        clear HU hU ho
        go_wp2
        rw [← HU3.out]
        go_ret3
        exact ⟨_, rfl, Kd.R_nil _ _ _ _ _, hb⟩

theorem letter_range (c : Int) (h : letterB c = true) : (97 ≤ c ∧ c ≤ 122) ∨ (65 ≤ c ∧ c ≤ 90) ∨ c = 95 := by
  have hl := letter_some c
  rw [h] at hl
  unfold word_isLetter.f at hl
  repeat' split at hl
  all_goals simp at hl
  all_goals omega
theorem letter_not_blank (c : Int) (h : letterB c = true) : blankB c = false := by
  have hr := letter_range c h
  unfold blankB word_isBlank.f
  rw [if_neg (by omega), if_neg (by omega), if_neg (by omega), beq_eq_false_iff_ne.2 (show c ≠ 13 by omega)]
  rfl
theorem plain_facts (s : ByteArray) (hp : plainB s = true) : 0 < s.size ∧ letterB (bt s 0) = true ∧ runEnd inNameB s s.size 0 = s.size := by
  have h1 : word_Plain.f s = some true := by simpa [plainB] using hp
  have h2 : word_Named.f s = some true := by
    unfold word_Plain.f at h1
    obtain ⟨b, hb, h1⟩ := Option.bind_eq_some_iff.mp h1
    cases b
    · simp at h1
    · exact hb
  unfold word_Named.f at h2
  by_cases c : s.size = 0
  · rw [if_pos c] at h2
    simp at h2
  · rw [if_neg c] at h2
    split at h2
    · rw [letter_some, Option.bind_some] at h2
      cases hl : letterB (bt s 0)
      · rw [hl] at h2
        simp at h2
      · rw [hl] at h2
        simp at h2
        exact ⟨by omega, rfl, h2⟩
    · simp at h2
theorem whole (s : ByteArray) : s.extract 0 s.size = s := by
  apply ByteArray.ext
  apply Array.ext'
  rw [Lib.extract_data, List.drop_zero, Nat.sub_zero, List.take_of_length_le (by rw [← Lib.size_eq]; exact Nat.le_refl _)]

set_option maxHeartbeats 8000000 in
set_option maxRecDepth 100000 in
theorem scan_plain (s : ByteArray) (hs : s.size ≤ 140737488351232) (hpl : plainB s = true) (w : World) (hT : Tabs w) :
    Calls Tryd.prog 11 #[.string s] w fun e w' => ∃ v0_ : Value, e = .returned (.tuple #[v0_, .int .i64 0, .int .i64 0]) ∧ Kd.R k60 60 w' w.heap.size (fun _ => True) v0_ [⟨1, 0, (s.size : Int), s⟩] ∧ Below w.heap.size w w' := by
  obtain ⟨h0, hl, hrun⟩ := plain_facts s hpl
  have h1 : word_Plain.f (s.extract 0 s.size) = some true := by
    rw [whole]
    simpa [plainB] using hpl
  have hr := letter_range _ hl
  have HP := Lib.hid h1
  have HL : Hid (word_isLetter.f (bt s 0) = some true) := by
    show word_isLetter.f _ = some true
    rw [letter_some, hl]
  have hsk0 : skipZ s (s.size + 1 - 0) 0 = 0 := by
    have hb0 : runEnd blankB s (s.size - 0) 0 = 0 := by
      obtain ⟨g, hg⟩ : ∃ g, s.size = g + 1 := ⟨s.size - 1, by omega⟩
      rw [Nat.sub_zero, hg]
      unfold runEnd
      rw [if_pos h0]
      have := letter_not_blank _ hl
      rw [show (((0 : Nat) : Int)) = (0 : Int) from rfl, this, if_neg (by decide)]
    rw [Nat.sub_zero]
    unfold skipZ
    rw [hb0, if_neg (by omega), if_pos (by show bt s 0 ≠ 35; omega)]
  have hsk1 : skipZ s (s.size + 1 - s.size) s.size = s.size := by
    rw [show s.size + 1 - s.size = 0 + 1 by omega]
    unfold skipZ
    rw [Nat.sub_self]
    show (if s.size = s.size then s.size else _) = s.size
    rw [if_pos rfl]
  have HT := Lib.hid hT
  have S0 : Hid (Sc w.heap.size w.heap.size s ((0 : Nat) : Int) [] [] 0 0 (.slice none 0 0) (.slice none 0 0) (w.alloc (.cells (scCells s 0 (.slice none 0 0) (.slice none 0 0) 0 0) 53))) :=
    ⟨heap_alloc_new w _, own_nil _ _ _ _, own_nil _ _ _ _, Nat.le_refl _⟩
  have hsk := skip_calls (w.alloc (.cells (scCells s 0 (.slice none 0 0) (.slice none 0 0) 0 0) 53)) 0 (Nat.zero_le _) hs S0.out
  rw [hsk0] at hsk
  have H1 := Lib.hid hsk1
  have HR := Lib.hid hrun
  clear hsk0 hsk1 hrun hT hpl h1 hr hl
  go_enter Tryd.func11, Tryd.ntmps11
  go_wp2_with (go_at_call 18; refine hsk.mono ?_; rintro e0 w1 ⟨rfl, S1, hb1⟩)
  have hB1 : Below w.heap.size w w1 := ((Below.refl _ w).alloc (Nat.le_refl _) _).trans hb1
  have S1h := Lib.hid S1
  clear S1 S0 hsk hb1
  go_loopg [] 1 (fun g wx => (g = 1 ∧ Hid (Sc w.heap.size w.heap.size s ((0 : Nat) : Int) [] [] 0 0 (.slice none 0 0) (.slice none 0 0) wx) ∧ Below w.heap.size w wx) ∨ (g = 0 ∧ ∃ vt vo, Hid (Sc w.heap.size w.heap.size s (s.size : Int) [⟨1, 0, (s.size : Int), s⟩] [] 0 0 vt vo wx) ∧ Below w.heap.size w wx))
  case atStart => exact Or.inl ⟨rfl, S1h, hB1⟩
  case round =>
    clear S1h hB1
    rcases hrel with ⟨hg, S, hb⟩ | ⟨hg, vt, vo, S, hb⟩
    · have c1 : wr.cell? ⟨w.heap.size, 1, none⟩ = some (.int .i64 0) := S.out.c1
      have hz : (0 : Int) < (s.size : Int) := by omega
      have hone := one_name_true wr 0 h0 hs (by simp) (by simp) (by simp) (bt s 0) rfl (by simp) (by have := letter_range (bt s 0) (by have := HL.out; rw [letter_some] at this; simpa using this); omega) HL s.size (by rw [Nat.sub_zero]; exact HR.out) HP S.out (HT.out.below hb)
      rw [whole] at hone
      unfold OneEnd at hone
      simp only at hone
      go_wp2_with (go_at_call 19; (with_reducible refine hone.mono ?_); rintro e0 w2 ⟨rfl, (⟨_, vt2, vo2, S2⟩ | ⟨hz, _⟩), hb2⟩; rotate_left; exact absurd rfl hz; have S2h := Lib.hid S2; have c4 := S2.c4; clear S2; have hb3 := Lib.hid (hb.trans hb2); clear hb2)
      go_wp2_with (go_at_call 18; (with_reducible refine (skip_calls _ s.size (Nat.le_refl _) hs S2h.out).mono ?_); rintro e0 w3 ⟨rfl, S3, hb4⟩; rw [H1.out] at S3; have S3h := Lib.hid S3; clear S3)
      go_roundg 0
      case measure => omega
      case rel => exact Or.inr ⟨rfl, vt2, vo2, S3h, hb3.out.trans hb4⟩
    · have c1 := S.out.c1
      have c2 := S.out.c2
      have c3 := S.out.c3
      obtain ⟨A, cp, rfl⟩ := own_slice S.out.opn
      go_wp2
      go_ret3
      exact ⟨_, rfl, toks_R S.out.tok, hb⟩

def word_Scan.f (a0 : ByteArray) : Option (List Tok × Int × Int) := if a0.size ≤ 1073741824 then some (scanR a0) else if a0.size ≤ 140737488351232 ∧ plainB a0 = true then some ([⟨1, 0, (a0.size : Int), a0⟩], 0, 0) else none

theorem word_Scan.calls (a0 : ByteArray) (r1 : List Tok) (r2 r3 : Int) (w : World) (hT : Tabs w) (h : word_Scan.f a0 = some (r1, r2, r3)) :
    Calls Tryd.prog 11 #[.string a0] w fun e w' => ∃ v0_ : Value, e = .returned (.tuple #[v0_, .int .i64 r2, .int .i64 r3]) ∧ Kd.R k60 60 w' w.heap.size (fun _ => True) v0_ r1 ∧ Below w.heap.size w w' := by
  unfold word_Scan.f at h
  split at h
  · rename_i hs
    exact scan_body a0 hs (r1, r2, r3) (Option.some.inj h) w hT
  · split at h
    · rename_i hs
      injection h with h
      injection h with e1 h
      injection h with e2 e3
      subst e1 e2 e3
      exact scan_plain a0 hs.1 hs.2 w hT
    · cases h

end Go.Proofs.YthlmhnlfcnpocaaDoor.U

namespace Go.Proofs.YthlmhnlfcnpocaaDoor.U
open Go.RowKit Go.Proofs.YthlmhnlfcnpocaaDoorW.PrintWords
set_option linter.unusedVariables false
set_option linter.unusedSimpArgs false

theorem pieceZ_size (s : ByteArray) : ∀ (f i : Nat) (acc : List UInt8), (pieceZ s f i acc).2.2.2.length ≤ acc.length + 4 * f
  | 0, _, _ => by simp [pieceZ]
  | f + 1, i, acc => by
    have he : ∀ r : Int, (Lib.encodeRune r).length ≤ 4 := fun r => by
      have := (Lib.encodeRuneZ_length r).2
      simpa [Lib.encodeRune] using this
    unfold pieceZ
    split
    · split
      · show acc.length ≤ _; omega
      · split
        · show acc.length ≤ _; omega
        · split
          · split
            · refine Nat.le_trans (pieceZ_size s f _ _) ?_
              rw [List.length_append]
              have := he (escT (s.extract i s.size)).1
              omega
            · exact Nat.zero_le _
          · split
            · exact Nat.zero_le _
            · split
              · exact Nat.zero_le _
              · refine Nat.le_trans (pieceZ_size s f _ _) ?_
                rw [List.length_append]
                have := he ((Utf8.decode s i).1 : Int)
                omega
    · exact Nat.zero_le _
theorem piece_text (s : ByteArray) (i : Nat) (last more : Int) (opL opM : List Int) : (pieceR last more opL opM (pieceZ s s.size i [])).text.size ≤ 4 * s.size := by
  have := pieceZ_size s s.size i []
  show (pieceZ s s.size i []).2.2.2.toArray.size ≤ _
  simpa using this
theorem extract_text (s : ByteArray) (a b : Nat) : (s.extract a b).size ≤ 4 * s.size := by
  rw [ByteArray.size_extract]
  omega
theorem oneR_text (s : ByteArray) (i : Nat) (op : List Int) : (oneR s i op).text.size ≤ 4 * s.size := by
  have h0 : (⟨#[]⟩ : ByteArray).size ≤ 4 * s.size := Nat.zero_le _
  have h2 : ∀ a b, ((s.extract i s.size).extract a b).size ≤ 4 * s.size := fun a b => by
    rw [ByteArray.size_extract, ByteArray.size_extract]
    omega
  unfold oneR
  split
  · exact piece_text _ _ _ _ _ _
  · split
    · exact extract_text _ _ _
    · split
      · split
        · exact h0
        · exact extract_text _ _ _
      · split
        · split
          · exact extract_text _ _ _
          · exact h0
        · unfold markR
          split
          · exact h0
          · split
            · exact h2 _ _
            · split
              · exact h2 _ _
              · split
                · split
                  · exact piece_text _ _ _ _ _ _
                  · exact h2 _ _
                · exact h2 _ _

theorem scanZ_fine (s : ByteArray) (hs : s.size ≤ 1073741824) : ∀ (f i : Nat) (toks : List Tok) (op : List Int), i ≤ s.size → toks.length ≤ i → Fits op i → (∀ t ∈ toks, t.f3.size ≤ 4 * s.size) →
    (scanZ s f i toks op).1.length ≤ s.size ∧ ∀ t ∈ (scanZ s f i toks op).1, t.f3.size ≤ 4 * s.size
  | 0, _, _, _, _, _, _, _ => ⟨Nat.zero_le _, fun _ h => absurd h List.not_mem_nil⟩
  | f + 1, i, toks, op, hi, hl, hF, ht => by
    unfold scanZ
    split
    · rename_i h1
      split
      · rename_i h2
        obtain ⟨r1, r2, r3⟩ := oneR_range s i op h1 hs hF h2
        have hb := skipZ_bounds s (s.size + 1 - (oneR s i op).pos) _ r2
        refine scanZ_fine s hs f _ _ _ hb.2 (by rw [List.length_append]; simp; omega) (r3.mono hb.1) (fun t h => ?_)
        rcases List.mem_append.1 h with h | h
        · exact ht t h
        · rw [List.mem_singleton.1 h]
          exact oneR_text s i op
      · exact ⟨Nat.zero_le _, fun _ h => absurd h List.not_mem_nil⟩
    · split
      · exact ⟨by show toks.length ≤ _; omega, ht⟩
      · exact ⟨Nat.zero_le _, fun _ h => absurd h List.not_mem_nil⟩
theorem scanR_fine (s : ByteArray) (hs : s.size ≤ 1073741824) : (scanR s).1.length ≤ s.size ∧ ∀ t ∈ (scanR s).1, t.f3.size ≤ 4 * s.size :=
  scanZ_fine s hs _ _ _ _ (skipZ_bounds s (s.size + 1) 0 (Nat.zero_le _)).2 (Nat.zero_le _) ⟨Nat.zero_le _, fun y hy => absurd hy List.not_mem_nil⟩ (fun t h => absurd h List.not_mem_nil)

/-- the scan's words, as they lie -/
theorem toks_of_reps {w : World} {base : Nat} {ok : Nat → Prop} : ∀ (l : List Tok) (cs : List Value), Reps (k60.M w base ok) 4 l cs → cs = toksCells l
  | [], cs, h => by
    have := h.1
    rw [List.length_nil, Nat.zero_mul] at this
    rw [List.length_eq_zero_iff.1 this]
    rfl
  | t :: l, cs, h => by
    have h0 := h.2 0 t rfl
    have e0 := k60_openM h0
    rw [Nat.zero_mul, List.drop_zero] at e0
    have h1 : Reps (k60.M w base ok) 4 l (cs.drop 4) := by
      refine ⟨by rw [List.length_drop, h.1, List.length_cons]; omega, fun j p hj => ?_⟩
      have := h.2 (j + 1) p (by simpa using hj)
      rw [List.drop_drop]
      rwa [show 4 + j * 4 = (j + 1) * 4 by omega]
    have e1 := toks_of_reps l _ h1
    rw [← List.take_append_drop 4 cs, e0, e1]
    rfl
theorem toks_of_R {w : World} {base : Nat} {ok : Nat → Prop} {v : Value} {l : List Tok} (h : Kd.R k60 60 w base ok v l) : w.ownsRow base 60 4 v l.length (toksCells l) := by
  obtain ⟨_, inner, ho, hr⟩ := h
  have := toks_of_reps l inner hr
  rw [← this]
  exact ho
end Go.Proofs.YthlmhnlfcnpocaaDoor.U
