/- The contract of the scanner's one: the token that begins at a place. -/
import Derived.Test.YthlmhnlfcnpocaaDoorScanA
import Derived.Test.YthlmhnlfcnpocaaDoorUL1x0
import Derived.Test.YthlmhnlfcnpocaaDoorUL0x1
import Derived.IntWalk
import Derived.Deep.QuietTactic
import Derived.BigQuiet
import Derived.Deep.RegionWith
namespace Go.Proofs.YthlmhnlfcnpocaaDoor.U
open Go.RowKit Go.Proofs.YthlmhnlfcnpocaaDoorW.PrintWords
set_option linter.unusedSimpArgs false
set_option linter.unusedVariables false

def letterB (c : Int) : Bool := (word_isLetter.f c) == some true
def digitB (c : Int) : Bool := (word_isDigit.f c) == some true
theorem letter_some (c : Int) : word_isLetter.f c = some (letterB c) := by
  obtain ⟨b, hb⟩ := isLetter_some c
  unfold letterB
  rw [hb]
  cases b <;> rfl
theorem digit_some (c : Int) : word_isDigit.f c = some (digitB c) := by
  obtain ⟨b, hb⟩ := isDigit_some c
  unfold digitB
  rw [hb]
  cases b <;> rfl
theorem q_letter (c : Int) (b : Bool) (h : word_isLetter.f c = some b) (w : World) (n : Nat) : Calls Tryd.prog 33 #[.int .u8 c] (w.drewN n) fun e w'' => e = .returned (.bool b) ∧ ∃ m, w'' = w.drewN m :=
  Calls.quiet_of ((word_isLetter.calls c b _ h).mono fun _ _ ⟨he, hd⟩ => ⟨he, hd.out⟩)
theorem q_run (F : Nat) (s : ByteArray) (i e : Nat) (h : ∀ w : World, Calls Tryd.prog 29 #[.string s, .int .i64 i, .func (.func F) #[] #[]] w fun r w' => r = .returned (.int .i64 e) ∧ Drawn0 w w') (w : World) (n : Nat) :
    Calls Tryd.prog 29 #[.string s, .int .i64 i, .func (.func F) #[] #[]] (w.drewN n) fun r w'' => r = .returned (.int .i64 e) ∧ ∃ m, w'' = w.drewN m :=
  Calls.quiet_of ((h _).mono fun _ _ ⟨he, hd⟩ => ⟨he, hd.out⟩)

theorem q_plain (t : ByteArray) (b : Bool) (h : word_Plain.f t = some b) (w : World) (hT : Tabs w) (n : Nat) : Calls Tryd.prog 35 #[.string t] (w.drewN n) fun e w'' => e = .returned (.bool b) ∧ ∃ m, w'' = w.drewN m :=
  Calls.quiet_of ((word_Plain.calls t b _ (Tabs.of_heap (w := w) (w' := w.drewN n) hT rfl) h).mono fun _ _ ⟨he, hd⟩ => ⟨he, hd.out⟩)
theorem q_formed (k : Nat) (t : ByteArray) (b : Bool) (h : tens_Formed.f k t = some b) (w : World) (n : Nat) : Calls Tryd.prog 40 #[.string t] (w.drewN n) fun e w'' => e = .returned (.bool b) ∧ ∃ m, w'' = w.drewN m :=
  Calls.quiet_of ((tens_Formed.calls k t b _ h).mono fun _ _ ⟨he, hd⟩ => ⟨he, hd.out⟩)

set_option maxHeartbeats 8000000 in
set_option maxRecDepth 100000 in
theorem one_quote {B b : Nat} {s : ByteArray} {toks : List Tok} {op : List Int} {vt vo : Value} (W : World) (i : Nat) (hi : i < s.size) (hs : s.size ≤ 1073741824) (ht : toks.length ≤ i) (hol : op.length ≤ i) (hop : ∀ y ∈ op, 0 ≤ y ∧ y ≤ (i : Int)) (c : Int) (hcc : bt s (i : Int) = c) (h34 : c = 34) (h : Sc B b s i toks op 0 0 vt vo W) (hT : Tabs W) :
    Calls Tryd.prog 19 #[.pointer (some ⟨b, 0, none⟩)] W fun r w' => r = .returned (.tuple #[]) ∧ OneEnd B b s i toks op (pieceR 6 7 op (op ++ [0]) (pieceZ s s.size (i + 1) [])) w' ∧ Below B W w' := by
  subst h34
  have c0 := h.c0
  have c1 := h.c1
  have hi0 : (0 : Int) ≤ (i : Int) := by omega
  have hi1 : (i : Int) < (s.size : Int) := by omega
  have hb0 := bt_at s (i : Int) hi
  rw [hcc] at hb0
  have hx : ((s[i]'hi).toNat : Int) = 34 := hb0
  clear hb0 hcc
  have hlow := h.low
  have hlt := h.lt
  have H := Lib.hid h
  have HT := Lib.hid hT
  have HOP := Lib.hid hop
  clear h hT hop
  go_enter Tryd.func19, Tryd.ntmps19
  go_wp2_with fail
  go_quiet (fail)
  all_goals
    have hx1 : Hid ((W.drewN nq).heap = W.heap) := rfl
    have bx1 : Below B W (W.drewN nq) := by apply pw_below_drewN; exact Below.refl _ _
    generalize W.drewN nq = x1 at hx1 bx1 ⊢
    clear c0 c1
    have c0 := (Sc.of_heap hx1.out H.out).c0
    have c1 := (Sc.of_heap hx1.out H.out).c1
    have hpc := piece_first x1 i hi hs ht hol (Sc.of_heap hx1.out H.out) (Tabs.of_heap HT.out hx1.out)
    go_wp2_with (first
      | (go_at_call 32; (with_reducible refine hpc.mono ?_); rintro e0 w5 ⟨rfl, S5, hb5⟩))
    go_end0
    exact ⟨rfl, PieceEnd.one S5, bx1.trans hb5⟩

set_option maxHeartbeats 8000000 in
set_option maxRecDepth 100000 in
theorem one_name_true {B b : Nat} {s : ByteArray} {toks : List Tok} {op : List Int} {vt vo : Value} (W : World) (i : Nat) (hi : i < s.size) (hs : s.size ≤ 140737488351232) (ht : toks.length ≤ i) (hol : op.length ≤ i) (hop : ∀ y ∈ op, 0 ≤ y ∧ y ≤ (i : Int)) (c : Int) (hcc : bt s (i : Int) = c) (hlen : (toks.length + 1) * 40 ≤ 140737488355328) (n34 : ¬ c = 34) (HL : Hid (word_isLetter.f c = some true)) (e : Nat) (he : runEnd inNameB s (s.size - i) i = e) (HP : Hid (word_Plain.f (s.extract i e) = some true)) (h : Sc B b s i toks op 0 0 vt vo W) (hT : Tabs W) :
    Calls Tryd.prog 19 #[.pointer (some ⟨b, 0, none⟩)] W fun r w' => r = .returned (.tuple #[]) ∧ OneEnd B b s i toks op ⟨0, e, 1, s.extract i e, op⟩ w' ∧ Below B W w' := by
  have c0 := h.c0
  have c1 := h.c1
  have hi0 : (0 : Int) ≤ (i : Int) := by omega
  have hi1 : (i : Int) < (s.size : Int) := by omega
  have hb0 := bt_at s (i : Int) hi
  rw [hcc] at hb0
  have hx : ((s[i]'hi).toNat : Int) = c := hb0
  clear hb0 hcc
  have hlow := h.low
  have hlt := h.lt
  have H := Lib.hid h
  have HT := Lib.hid hT
  have HOP := Lib.hid hop
  clear h hT hop
  have hrun := run_inName s i (by omega) (by omega)
  have hbd := runEnd_bounds inNameB s (s.size - i) i (by omega)
  rw [he] at hrun hbd
  clear he
  have he0 : (i : Int) ≤ (e : Int) := by omega
  have he1 : (e : Int) ≤ (s.size : Int) := by omega
  go_enter Tryd.func19, Tryd.ntmps19
  go_wp2_with fail
  go_quiet (fail)
  all_goals
    have hx1 : Hid ((W.drewN nq).heap = W.heap) := rfl
    have bx1 : Below B W (W.drewN nq) := by apply pw_below_drewN; exact Below.refl _ _
    generalize W.drewN nq = x1 at hx1 bx1 ⊢
    clear c0 c1
    have c0 := (Sc.of_heap hx1.out H.out).c0
    have c1 := (Sc.of_heap hx1.out H.out).c1
    go_wp2_with (first
      | (go_at_call 33; (with_reducible refine (word_isLetter.calls c _ _ HL.out).mono ?_); rintro e0 w2 ⟨rfl, ⟨nl, rfl⟩⟩))
    have hx2 : Hid ((x1.drewN nl).heap = W.heap) := hx1.out
    have bx2 : Below B W (x1.drewN nl) := by apply pw_below_drewN; exact bx1
    generalize x1.drewN nl = x2 at hx2 bx2 ⊢
    clear c0 c1
    have c0 := (Sc.of_heap hx2.out H.out).c0
    have c1 := (Sc.of_heap hx2.out H.out).c1
    go_quiet ((go_at_call 29; exact q_run _ s i e hrun _ _))
    all_goals
      have hx3 : Hid ((x2.drewN nq).heap = W.heap) := hx2.out
      have bx3 : Below B W (x2.drewN nq) := by apply pw_below_drewN; exact bx2
      generalize x2.drewN nq = x3 at hx3 bx3 ⊢
      clear c0 c1
      have c0 := (Sc.of_heap hx3.out H.out).c0
      have c1 := (Sc.of_heap hx3.out H.out).c1
      go_wp2_with fail
      go_quiet (fail)
      all_goals
        have hx4 : Hid ((x3.drewN nq).heap = W.heap) := hx3.out
        have bx4 : Below B W (x3.drewN nq) := by apply pw_below_drewN; exact bx3
        generalize x3.drewN nq = x4 at hx4 bx4 ⊢
        clear c0 c1
        have c0 := (Sc.of_heap hx4.out H.out).c0
        have c1 := (Sc.of_heap hx4.out H.out).c1
        have hpl := word_Plain.calls (s.extract i e) true x4 (Tabs.of_heap HT.out hx4.out) HP.out
        have htk := fun k => token_calls (x4.drewN k) 1 e (s.extract i e) (Sc.of_heap (W := W) (W1 := x4.drewN k) hx4.out H.out) hlen
        go_wp2_with (first
          | (go_at_call 35; (with_reducible refine hpl.mono ?_); rintro e0 w2 ⟨rfl, ⟨np, rfl⟩⟩)
          | (go_at_call 36; (with_reducible refine (htk _).mono ?_); rintro e0 w5 ⟨rfl, v5, S5, hb5⟩))
        go_end0
        exact ⟨rfl, Or.inl ⟨rfl, v5, _, S5⟩, Below.trans (by apply pw_below_drewN; exact bx4) hb5⟩

set_option maxHeartbeats 8000000 in
set_option maxRecDepth 100000 in
theorem one_name_false {B b : Nat} {s : ByteArray} {toks : List Tok} {op : List Int} {vt vo : Value} (W : World) (i : Nat) (hi : i < s.size) (hs : s.size ≤ 140737488351232) (ht : toks.length ≤ i) (hol : op.length ≤ i) (hop : ∀ y ∈ op, 0 ≤ y ∧ y ≤ (i : Int)) (c : Int) (hcc : bt s (i : Int) = c) (hlen : (toks.length + 1) * 40 ≤ 140737488355328) (n34 : ¬ c = 34) (HL : Hid (word_isLetter.f c = some true)) (e : Nat) (he : runEnd inNameB s (s.size - i) i = e) (HP : Hid (word_Plain.f (s.extract i e) = some false)) (h : Sc B b s i toks op 0 0 vt vo W) (hT : Tabs W) :
    Calls Tryd.prog 19 #[.pointer (some ⟨b, 0, none⟩)] W fun r w' => r = .returned (.tuple #[]) ∧ OneEnd B b s i toks op ⟨0, e, 2, s.extract i e, op⟩ w' ∧ Below B W w' := by
  have c0 := h.c0
  have c1 := h.c1
  have hi0 : (0 : Int) ≤ (i : Int) := by omega
  have hi1 : (i : Int) < (s.size : Int) := by omega
  have hb0 := bt_at s (i : Int) hi
  rw [hcc] at hb0
  have hx : ((s[i]'hi).toNat : Int) = c := hb0
  clear hb0 hcc
  have hlow := h.low
  have hlt := h.lt
  have H := Lib.hid h
  have HT := Lib.hid hT
  have HOP := Lib.hid hop
  clear h hT hop
  have hrun := run_inName s i (by omega) (by omega)
  have hbd := runEnd_bounds inNameB s (s.size - i) i (by omega)
  rw [he] at hrun hbd
  clear he
  have he0 : (i : Int) ≤ (e : Int) := by omega
  have he1 : (e : Int) ≤ (s.size : Int) := by omega
  go_enter Tryd.func19, Tryd.ntmps19
  go_wp2_with fail
  go_quiet (fail)
  all_goals
    have hx1 : Hid ((W.drewN nq).heap = W.heap) := rfl
    have bx1 : Below B W (W.drewN nq) := by apply pw_below_drewN; exact Below.refl _ _
    generalize W.drewN nq = x1 at hx1 bx1 ⊢
    clear c0 c1
    have c0 := (Sc.of_heap hx1.out H.out).c0
    have c1 := (Sc.of_heap hx1.out H.out).c1
    go_wp2_with (first
      | (go_at_call 33; (with_reducible refine (word_isLetter.calls c _ _ HL.out).mono ?_); rintro e0 w2 ⟨rfl, ⟨nl, rfl⟩⟩))
    have hx2 : Hid ((x1.drewN nl).heap = W.heap) := hx1.out
    have bx2 : Below B W (x1.drewN nl) := by apply pw_below_drewN; exact bx1
    generalize x1.drewN nl = x2 at hx2 bx2 ⊢
    clear c0 c1
    have c0 := (Sc.of_heap hx2.out H.out).c0
    have c1 := (Sc.of_heap hx2.out H.out).c1
    go_quiet ((go_at_call 29; exact q_run _ s i e hrun _ _))
    all_goals
      have hx3 : Hid ((x2.drewN nq).heap = W.heap) := hx2.out
      have bx3 : Below B W (x2.drewN nq) := by apply pw_below_drewN; exact bx2
      generalize x2.drewN nq = x3 at hx3 bx3 ⊢
      clear c0 c1
      have c0 := (Sc.of_heap hx3.out H.out).c0
      have c1 := (Sc.of_heap hx3.out H.out).c1
      go_wp2_with fail
      go_quiet (fail)
      all_goals
        have hx4 : Hid ((x3.drewN nq).heap = W.heap) := hx3.out
        have bx4 : Below B W (x3.drewN nq) := by apply pw_below_drewN; exact bx3
        generalize x3.drewN nq = x4 at hx4 bx4 ⊢
        clear c0 c1
        have c0 := (Sc.of_heap hx4.out H.out).c0
        have c1 := (Sc.of_heap hx4.out H.out).c1
        have hpl := word_Plain.calls (s.extract i e) false x4 (Tabs.of_heap HT.out hx4.out) HP.out
        have htk := fun k => token_calls (x4.drewN k) 2 e (s.extract i e) (Sc.of_heap (W := W) (W1 := x4.drewN k) hx4.out H.out) hlen
        go_wp2_with (first
          | (go_at_call 35; (with_reducible refine hpl.mono ?_); rintro e0 w2 ⟨rfl, ⟨np, rfl⟩⟩)
          | (go_at_call 36; (with_reducible refine (htk _).mono ?_); rintro e0 w5 ⟨rfl, v5, S5, hb5⟩))
        go_end0
        exact ⟨rfl, Or.inl ⟨rfl, v5, _, S5⟩, Below.trans (by apply pw_below_drewN; exact bx4) hb5⟩

theorem q_run1 (F : Nat) (s : ByteArray) (i e : Nat) (h : ∀ w : World, Calls Tryd.prog 29 #[.string s, .int .i64 ((i : Int) + 1), .func (.func F) #[] #[]] w fun r w' => r = .returned (.int .i64 e) ∧ Drawn0 w w') (w : World) (n : Nat) :
    Calls Tryd.prog 29 #[.string s, .int .i64 ((i : Int) + 1), .func (.func F) #[] #[]] (w.drewN n) fun r w'' => r = .returned (.int .i64 e) ∧ ∃ m, w'' = w.drewN m :=
  Calls.quiet_of ((h _).mono fun _ _ ⟨he, hd⟩ => ⟨he, hd.out⟩)

set_option maxHeartbeats 8000000 in
set_option maxRecDepth 100000 in
theorem one_var {B b : Nat} {s : ByteArray} {toks : List Tok} {op : List Int} {vt vo : Value} (W : World) (i : Nat) (hi : i < s.size) (hs : s.size ≤ 1073741824) (ht : toks.length ≤ i) (hol : op.length ≤ i) (hop : ∀ y ∈ op, 0 ≤ y ∧ y ≤ (i : Int)) (c : Int) (hcc : bt s (i : Int) = c) (hlit : c = 36) (hin : i + 1 < s.size) (d : Int) (hdd : bt s ((i + 1 : Nat) : Int) = d) (HD : Hid (word_isLetter.f d = some true)) (e : Nat) (he : runEnd inNameB s (s.size - (i + 1)) (i + 1) = e) (HP : Hid (word_Plain.f (s.extract (i + 1) e) = some true)) (h : Sc B b s i toks op 0 0 vt vo W) (hT : Tabs W) :
    Calls Tryd.prog 19 #[.pointer (some ⟨b, 0, none⟩)] W fun r w' => r = .returned (.tuple #[]) ∧ OneEnd B b s i toks op ⟨0, e, 3, s.extract (i + 1) e, op⟩ w' ∧ Below B W w' := by
  subst hlit
  have c0 := h.c0
  have c1 := h.c1
  have hi0 : (0 : Int) ≤ (i : Int) := by omega
  have hi1 : (i : Int) < (s.size : Int) := by omega
  have hb0 := bt_at s (i : Int) hi
  rw [hcc] at hb0
  have hx : ((s[i]'hi).toNat : Int) = 36 := hb0
  clear hb0 hcc
  have hlow := h.low
  have hlt := h.lt
  have H := Lib.hid h
  have HT := Lib.hid hT
  have HOP := Lib.hid hop
  clear h hT hop
  have HL : Hid (word_isLetter.f 36 = some false) := by
    show word_isLetter.f 36 = some false
    rfl
  have hb1 := bt_at s ((i + 1 : Nat) : Int) hin
  rw [hdd] at hb1
  have hx1 : ((s[i + 1]'hin).toNat : Int) = d := hb1
  clear hb1 hdd
  have hrun : ∀ w : World, Calls Tryd.prog 29 #[.string s, .int .i64 ((i : Int) + 1), .func (.func 34) #[] #[]] w fun r w' => r = .returned (.int .i64 e) ∧ Drawn0 w w' := by
    intro w
    rw [show (i : Int) + 1 = ((i + 1 : Nat) : Int) by omega, ← he]
    exact run_inName s (i + 1) (by omega) (by omega) w
  have hbd := runEnd_bounds inNameB s (s.size - (i + 1)) (i + 1) (by omega)
  rw [he] at hbd
  clear he
  have he0 : (i : Int) + 1 ≤ (e : Int) := by omega
  have he1 : (e : Int) ≤ (s.size : Int) := by omega
  have hlen : (toks.length + 1) * 40 ≤ 140737488355328 := by omega
  go_enter Tryd.func19, Tryd.ntmps19
  go_wp2_with fail
  go_quiet (fail)
  all_goals
    have hx1 : Hid ((W.drewN nq).heap = W.heap) := rfl
    have bx1 : Below B W (W.drewN nq) := by apply pw_below_drewN; exact Below.refl _ _
    generalize W.drewN nq = x1 at hx1 bx1 ⊢
    clear c0 c1
    have c0 := (Sc.of_heap hx1.out H.out).c0
    have c1 := (Sc.of_heap hx1.out H.out).c1
    go_wp2_with (first
      | (go_at_call 33; (with_reducible refine (word_isLetter.calls 36 _ _ HL.out).mono ?_); rintro e0 w2 ⟨rfl, ⟨nl, rfl⟩⟩))
    have hx2 : Hid ((x1.drewN nl).heap = W.heap) := hx1.out
    have bx2 : Below B W (x1.drewN nl) := by apply pw_below_drewN; exact bx1
    generalize x1.drewN nl = x2 at hx2 bx2 ⊢
    clear c0 c1
    have c0 := (Sc.of_heap hx2.out H.out).c0
    have c1 := (Sc.of_heap hx2.out H.out).c1
    have w1 : IntKind.i64.wrap ((i : Int) + 1) = (i : Int) + 1 := IntWalk.i64_in _ (by omega)
    have w2 : (0 : Int) ≤ (i : Int) + 1 := by omega
    have w3 : (i : Int) + 1 < (s.size : Int) := by omega
    have w4 : ((i : Int) + 1).toNat = i + 1 := by omega
    go_quiet ((go_at_call 33; exact q_letter d true HD.out _ _))
    all_goals
      have hx3 : Hid ((x2.drewN nq).heap = W.heap) := hx2.out
      have bx3 : Below B W (x2.drewN nq) := by apply pw_below_drewN; exact bx2
      generalize x2.drewN nq = x3 at hx3 bx3 ⊢
      clear c0 c1
      have c0 := (Sc.of_heap hx3.out H.out).c0
      have c1 := (Sc.of_heap hx3.out H.out).c1
      clear hx1
      go_wp2_with fail
      go_quiet ((go_at_call 29; exact q_run1 _ s i e hrun _ _))
      all_goals
        have hx4 : Hid ((x3.drewN nq).heap = W.heap) := hx3.out
        have bx4 : Below B W (x3.drewN nq) := by apply pw_below_drewN; exact bx3
        generalize x3.drewN nq = x4 at hx4 bx4 ⊢
        clear c0 c1
        have c0 := (Sc.of_heap hx4.out H.out).c0
        have c1 := (Sc.of_heap hx4.out H.out).c1
        go_wp2_with fail
        have HTx := Tabs.of_heap HT.out hx4.out
        go_quiet ((go_at_call 35; exact q_plain (s.extract (i + 1) e) true HP.out _ HTx _))
        all_goals
          have hx5 : Hid ((x4.drewN nq).heap = W.heap) := hx4.out
          have bx5 : Below B W (x4.drewN nq) := by apply pw_below_drewN; exact bx4
          generalize x4.drewN nq = x5 at hx5 bx5 ⊢
          clear c0 c1
          have c0 := (Sc.of_heap hx5.out H.out).c0
          have c1 := (Sc.of_heap hx5.out H.out).c1
          have htk := fun k => token_calls (x5.drewN k) 3 e (s.extract (i + 1) e) (Sc.of_heap (W := W) (W1 := x5.drewN k) hx5.out H.out) hlen
          go_wp2_with fail
          go_region_with
            ((refine (htk _).mono ?_; rintro e0 w5 ⟨rfl, v5, S5, hb5⟩))
          all_goals
            go_wp2
            go_end0
            exact ⟨rfl, Or.inl ⟨rfl, v5, _, S5⟩, Below.trans (by apply pw_below_drewN; exact bx5) hb5⟩

set_option maxHeartbeats 8000000 in
set_option maxRecDepth 100000 in
theorem one_var_not {B b : Nat} {s : ByteArray} {toks : List Tok} {op : List Int} {vt vo : Value} (W : World) (i : Nat) (hi : i < s.size) (hs : s.size ≤ 1073741824) (ht : toks.length ≤ i) (hol : op.length ≤ i) (hop : ∀ y ∈ op, 0 ≤ y ∧ y ≤ (i : Int)) (c : Int) (hcc : bt s (i : Int) = c) (hlit : c = 36) (hin : i + 1 < s.size) (d : Int) (hdd : bt s ((i + 1 : Nat) : Int) = d) (HD : Hid (word_isLetter.f d = some true)) (e : Nat) (he : runEnd inNameB s (s.size - (i + 1)) (i + 1) = e) (HP : Hid (word_Plain.f (s.extract (i + 1) e) = some false)) (h : Sc B b s i toks op 0 0 vt vo W) (hT : Tabs W) :
    Calls Tryd.prog 19 #[.pointer (some ⟨b, 0, none⟩)] W fun r w' => r = .returned (.tuple #[]) ∧ OneEnd B b s i toks op ⟨160, i, 0, ⟨#[]⟩, op⟩ w' ∧ Below B W w' := by
  subst hlit
  have c0 := h.c0
  have c1 := h.c1
  have hi0 : (0 : Int) ≤ (i : Int) := by omega
  have hi1 : (i : Int) < (s.size : Int) := by omega
  have hb0 := bt_at s (i : Int) hi
  rw [hcc] at hb0
  have hx : ((s[i]'hi).toNat : Int) = 36 := hb0
  clear hb0 hcc
  have hlow := h.low
  have hlt := h.lt
  have H := Lib.hid h
  have HT := Lib.hid hT
  have HOP := Lib.hid hop
  clear h hT hop
  have HL : Hid (word_isLetter.f 36 = some false) := by
    show word_isLetter.f 36 = some false
    rfl
  have hb1 := bt_at s ((i + 1 : Nat) : Int) hin
  rw [hdd] at hb1
  have hx1 : ((s[i + 1]'hin).toNat : Int) = d := hb1
  clear hb1 hdd
  have hrun : ∀ w : World, Calls Tryd.prog 29 #[.string s, .int .i64 ((i : Int) + 1), .func (.func 34) #[] #[]] w fun r w' => r = .returned (.int .i64 e) ∧ Drawn0 w w' := by
    intro w
    rw [show (i : Int) + 1 = ((i + 1 : Nat) : Int) by omega, ← he]
    exact run_inName s (i + 1) (by omega) (by omega) w
  have hbd := runEnd_bounds inNameB s (s.size - (i + 1)) (i + 1) (by omega)
  rw [he] at hbd
  clear he
  have he0 : (i : Int) + 1 ≤ (e : Int) := by omega
  have he1 : (e : Int) ≤ (s.size : Int) := by omega
  have hlen : (toks.length + 1) * 40 ≤ 140737488355328 := by omega
  go_enter Tryd.func19, Tryd.ntmps19
  go_wp2_with fail
  go_quiet (fail)
  all_goals
    have hx1 : Hid ((W.drewN nq).heap = W.heap) := rfl
    have bx1 : Below B W (W.drewN nq) := by apply pw_below_drewN; exact Below.refl _ _
    generalize W.drewN nq = x1 at hx1 bx1 ⊢
    clear c0 c1
    have c0 := (Sc.of_heap hx1.out H.out).c0
    have c1 := (Sc.of_heap hx1.out H.out).c1
    go_wp2_with (first
      | (go_at_call 33; (with_reducible refine (word_isLetter.calls 36 _ _ HL.out).mono ?_); rintro e0 w2 ⟨rfl, ⟨nl, rfl⟩⟩))
    have hx2 : Hid ((x1.drewN nl).heap = W.heap) := hx1.out
    have bx2 : Below B W (x1.drewN nl) := by apply pw_below_drewN; exact bx1
    generalize x1.drewN nl = x2 at hx2 bx2 ⊢
    clear c0 c1
    have c0 := (Sc.of_heap hx2.out H.out).c0
    have c1 := (Sc.of_heap hx2.out H.out).c1
    have w1 : IntKind.i64.wrap ((i : Int) + 1) = (i : Int) + 1 := IntWalk.i64_in _ (by omega)
    have w2 : (0 : Int) ≤ (i : Int) + 1 := by omega
    have w3 : (i : Int) + 1 < (s.size : Int) := by omega
    have w4 : ((i : Int) + 1).toNat = i + 1 := by omega
    go_quiet ((go_at_call 33; exact q_letter d true HD.out _ _))
    all_goals
      have hx3 : Hid ((x2.drewN nq).heap = W.heap) := hx2.out
      have bx3 : Below B W (x2.drewN nq) := by apply pw_below_drewN; exact bx2
      generalize x2.drewN nq = x3 at hx3 bx3 ⊢
      clear c0 c1
      have c0 := (Sc.of_heap hx3.out H.out).c0
      have c1 := (Sc.of_heap hx3.out H.out).c1
      clear hx1
      go_wp2_with fail
      go_quiet ((go_at_call 29; exact q_run1 _ s i e hrun _ _))
      all_goals
        have hx4 : Hid ((x3.drewN nq).heap = W.heap) := hx3.out
        have bx4 : Below B W (x3.drewN nq) := by apply pw_below_drewN; exact bx3
        generalize x3.drewN nq = x4 at hx4 bx4 ⊢
        clear c0 c1
        have c0 := (Sc.of_heap hx4.out H.out).c0
        have c1 := (Sc.of_heap hx4.out H.out).c1
        go_wp2_with fail
        have HTx := Tabs.of_heap HT.out hx4.out
        go_quiet ((go_at_call 35; exact q_plain (s.extract (i + 1) e) false HP.out _ HTx _))
        all_goals
          have hx5 : Hid ((x4.drewN nq).heap = W.heap) := hx4.out
          have bx5 : Below B W (x4.drewN nq) := by apply pw_below_drewN; exact bx4
          generalize x4.drewN nq = x5 at hx5 bx5 ⊢
          clear c0 c1
          have c0 := (Sc.of_heap hx5.out H.out).c0
          have c1 := (Sc.of_heap hx5.out H.out).c1
          have hfl := fail_calls x5 160 i (Sc.of_heap hx5.out H.out)
          go_wp2_with (first
            | (go_at_call 37; (with_reducible refine hfl.mono ?_); rintro e0 w5 ⟨rfl, S5, hb5⟩))
          refine bodyPost_ret (results_none rfl _ _ _) rfl ?_
          exact ⟨rfl, Or.inr ⟨by show (160 : Int) ≠ 0; decide, _, _, S5⟩, bx5.trans hb5⟩

set_option maxHeartbeats 8000000 in
set_option maxRecDepth 100000 in
theorem one_field {B b : Nat} {s : ByteArray} {toks : List Tok} {op : List Int} {vt vo : Value} (W : World) (i : Nat) (hi : i < s.size) (hs : s.size ≤ 1073741824) (ht : toks.length ≤ i) (hol : op.length ≤ i) (hop : ∀ y ∈ op, 0 ≤ y ∧ y ≤ (i : Int)) (c : Int) (hcc : bt s (i : Int) = c) (hlit : c = 46) (hin : i + 1 < s.size) (d : Int) (hdd : bt s ((i + 1 : Nat) : Int) = d) (HD : Hid (word_isLetter.f d = some true)) (e : Nat) (he : runEnd inNameB s (s.size - (i + 1)) (i + 1) = e) (h : Sc B b s i toks op 0 0 vt vo W) (hT : Tabs W) :
    Calls Tryd.prog 19 #[.pointer (some ⟨b, 0, none⟩)] W fun r w' => r = .returned (.tuple #[]) ∧ OneEnd B b s i toks op ⟨0, e, 4, s.extract (i + 1) e, op⟩ w' ∧ Below B W w' := by
  subst hlit
  have c0 := h.c0
  have c1 := h.c1
  have hi0 : (0 : Int) ≤ (i : Int) := by omega
  have hi1 : (i : Int) < (s.size : Int) := by omega
  have hb0 := bt_at s (i : Int) hi
  rw [hcc] at hb0
  have hx : ((s[i]'hi).toNat : Int) = 46 := hb0
  clear hb0 hcc
  have hlow := h.low
  have hlt := h.lt
  have H := Lib.hid h
  have HT := Lib.hid hT
  have HOP := Lib.hid hop
  clear h hT hop
  have HL : Hid (word_isLetter.f 46 = some false) := by
    show word_isLetter.f 46 = some false
    rfl
  have hb1 := bt_at s ((i + 1 : Nat) : Int) hin
  rw [hdd] at hb1
  have hx1 : ((s[i + 1]'hin).toNat : Int) = d := hb1
  clear hb1 hdd
  have hrun : ∀ w : World, Calls Tryd.prog 29 #[.string s, .int .i64 ((i : Int) + 1), .func (.func 34) #[] #[]] w fun r w' => r = .returned (.int .i64 e) ∧ Drawn0 w w' := by
    intro w
    rw [show (i : Int) + 1 = ((i + 1 : Nat) : Int) by omega, ← he]
    exact run_inName s (i + 1) (by omega) (by omega) w
  have hbd := runEnd_bounds inNameB s (s.size - (i + 1)) (i + 1) (by omega)
  rw [he] at hbd
  clear he
  have he0 : (i : Int) + 1 ≤ (e : Int) := by omega
  have he1 : (e : Int) ≤ (s.size : Int) := by omega
  have hlen : (toks.length + 1) * 40 ≤ 140737488355328 := by omega
  go_enter Tryd.func19, Tryd.ntmps19
  go_wp2_with fail
  go_quiet (fail)
  all_goals
    have hx1 : Hid ((W.drewN nq).heap = W.heap) := rfl
    have bx1 : Below B W (W.drewN nq) := by apply pw_below_drewN; exact Below.refl _ _
    generalize W.drewN nq = x1 at hx1 bx1 ⊢
    clear c0 c1
    have c0 := (Sc.of_heap hx1.out H.out).c0
    have c1 := (Sc.of_heap hx1.out H.out).c1
    go_wp2_with (first
      | (go_at_call 33; (with_reducible refine (word_isLetter.calls 46 _ _ HL.out).mono ?_); rintro e0 w2 ⟨rfl, ⟨nl, rfl⟩⟩))
    have hx2 : Hid ((x1.drewN nl).heap = W.heap) := hx1.out
    have bx2 : Below B W (x1.drewN nl) := by apply pw_below_drewN; exact bx1
    generalize x1.drewN nl = x2 at hx2 bx2 ⊢
    clear c0 c1
    have c0 := (Sc.of_heap hx2.out H.out).c0
    have c1 := (Sc.of_heap hx2.out H.out).c1
    have w1 : IntKind.i64.wrap ((i : Int) + 1) = (i : Int) + 1 := IntWalk.i64_in _ (by omega)
    have w2 : (0 : Int) ≤ (i : Int) + 1 := by omega
    have w3 : (i : Int) + 1 < (s.size : Int) := by omega
    have w4 : ((i : Int) + 1).toNat = i + 1 := by omega
    go_quiet ((go_at_call 33; exact q_letter d true HD.out _ _))
    all_goals
      have hx3 : Hid ((x2.drewN nq).heap = W.heap) := hx2.out
      have bx3 : Below B W (x2.drewN nq) := by apply pw_below_drewN; exact bx2
      generalize x2.drewN nq = x3 at hx3 bx3 ⊢
      clear c0 c1
      have c0 := (Sc.of_heap hx3.out H.out).c0
      have c1 := (Sc.of_heap hx3.out H.out).c1
      clear hx1
      go_wp2_with fail
      go_quiet ((go_at_call 29; exact q_run1 _ s i e hrun _ _))
      all_goals
        have hx4 : Hid ((x3.drewN nq).heap = W.heap) := hx3.out
        have bx4 : Below B W (x3.drewN nq) := by apply pw_below_drewN; exact bx3
        generalize x3.drewN nq = x4 at hx4 bx4 ⊢
        clear c0 c1
        have c0 := (Sc.of_heap hx4.out H.out).c0
        have c1 := (Sc.of_heap hx4.out H.out).c1
        go_wp2_with fail
        go_quiet (fail)
        all_goals
          have hx5 : Hid ((x4.drewN nq).heap = W.heap) := hx4.out
          have bx5 : Below B W (x4.drewN nq) := by apply pw_below_drewN; exact bx4
          generalize x4.drewN nq = x5 at hx5 bx5 ⊢
          clear c0 c1
          have c0 := (Sc.of_heap hx5.out H.out).c0
          have c1 := (Sc.of_heap hx5.out H.out).c1
          have htk := fun k => token_calls (x5.drewN k) 4 e (s.extract (i + 1) e) (Sc.of_heap (W := W) (W1 := x5.drewN k) hx5.out H.out) hlen
          go_wp2_with fail
          go_region_with
            ((refine (htk _).mono ?_; rintro e0 w5 ⟨rfl, v5, S5, hb5⟩))
          all_goals
            go_wp2
            go_end0
            exact ⟨rfl, Or.inl ⟨rfl, v5, _, S5⟩, Below.trans (by apply pw_below_drewN; exact bx5) hb5⟩

set_option maxHeartbeats 8000000 in
set_option maxRecDepth 100000 in
theorem one_number_true {B b : Nat} {s : ByteArray} {toks : List Tok} {op : List Int} {vt vo : Value} (W : World) (i : Nat) (hi : i < s.size) (hs : s.size ≤ 1073741824) (ht : toks.length ≤ i) (hol : op.length ≤ i) (hop : ∀ y ∈ op, 0 ≤ y ∧ y ≤ (i : Int)) (c : Int) (hcc : bt s (i : Int) = c) (n34 : ¬ c = 34) (n36 : ¬ c = 36) (n46 : ¬ c = 46) (HL : Hid (word_isLetter.f c = some false)) (HG : Hid (word_isDigit.f c = some true)) (e : Nat) (he : runEnd numeralB s (s.size - i) i = e) (kf : Nat) (HF : Hid (tens_Formed.f kf (s.extract i e) = some true)) (h : Sc B b s i toks op 0 0 vt vo W) (hT : Tabs W) :
    Calls Tryd.prog 19 #[.pointer (some ⟨b, 0, none⟩)] W fun r w' => r = .returned (.tuple #[]) ∧ OneEnd B b s i toks op ⟨0, e, 5, s.extract i e, op⟩ w' ∧ Below B W w' := by
  have c0 := h.c0
  have c1 := h.c1
  have hi0 : (0 : Int) ≤ (i : Int) := by omega
  have hi1 : (i : Int) < (s.size : Int) := by omega
  have hb0 := bt_at s (i : Int) hi
  rw [hcc] at hb0
  have hx : ((s[i]'hi).toNat : Int) = c := hb0
  clear hb0 hcc
  have hlow := h.low
  have hlt := h.lt
  have H := Lib.hid h
  have HT := Lib.hid hT
  have HOP := Lib.hid hop
  clear h hT hop
  have hrun := run_inNumeral s i (by omega) (by omega)
  have hbd := runEnd_bounds numeralB s (s.size - i) i (by omega)
  rw [he] at hrun hbd
  clear he
  have he0 : (i : Int) ≤ (e : Int) := by omega
  have he1 : (e : Int) ≤ (s.size : Int) := by omega
  have hlen : (toks.length + 1) * 40 ≤ 140737488355328 := by omega
  have b36 : (c == 36) = false := beq_eq_false_iff_ne.2 n36
  have b46 : (c == 46) = false := beq_eq_false_iff_ne.2 n46
  go_enter Tryd.func19, Tryd.ntmps19
  go_wp2_with fail
  go_quiet (fail)
  all_goals
    have hx1 : Hid ((W.drewN nq).heap = W.heap) := rfl
    have bx1 : Below B W (W.drewN nq) := by apply pw_below_drewN; exact Below.refl _ _
    generalize W.drewN nq = x1 at hx1 bx1 ⊢
    clear c0 c1
    have c0 := (Sc.of_heap hx1.out H.out).c0
    have c1 := (Sc.of_heap hx1.out H.out).c1
    go_wp2_with (first
      | (go_at_call 33; (with_reducible refine (word_isLetter.calls c _ _ HL.out).mono ?_); rintro e0 w2 ⟨rfl, ⟨nl, rfl⟩⟩))
    have hx2 : Hid ((x1.drewN nl).heap = W.heap) := hx1.out
    have bx2 : Below B W (x1.drewN nl) := by apply pw_below_drewN; exact bx1
    generalize x1.drewN nl = x2 at hx2 bx2 ⊢
    clear c0 c1
    have c0 := (Sc.of_heap hx2.out H.out).c0
    have c1 := (Sc.of_heap hx2.out H.out).c1
    go_quiet (fail)
    all_goals
      have hx3 : Hid ((x2.drewN nq).heap = W.heap) := hx2.out
      have bx3 : Below B W (x2.drewN nq) := by apply pw_below_drewN; exact bx2
      generalize x2.drewN nq = x3 at hx3 bx3 ⊢
      clear c0 c1
      have c0 := (Sc.of_heap hx3.out H.out).c0
      have c1 := (Sc.of_heap hx3.out H.out).c1
      go_wp2_with (first
        | (go_at_call 38; (with_reducible refine (word_isDigit.calls c _ _ HG.out).mono ?_); rintro e0 w2 ⟨rfl, ⟨ng, rfl⟩⟩))
      have hx4 : Hid ((x3.drewN ng).heap = W.heap) := hx3.out
      have bx4 : Below B W (x3.drewN ng) := by apply pw_below_drewN; exact bx3
      generalize x3.drewN ng = x4 at hx4 bx4 ⊢
      clear c0 c1
      have c0 := (Sc.of_heap hx4.out H.out).c0
      have c1 := (Sc.of_heap hx4.out H.out).c1
      go_quiet ((go_at_call 29; exact q_run _ s i e hrun _ _))
      all_goals
        have hx5 : Hid ((x4.drewN nq).heap = W.heap) := hx4.out
        have bx5 : Below B W (x4.drewN nq) := by apply pw_below_drewN; exact bx4
        generalize x4.drewN nq = x5 at hx5 bx5 ⊢
        clear c0 c1
        have c0 := (Sc.of_heap hx5.out H.out).c0
        have c1 := (Sc.of_heap hx5.out H.out).c1
        go_wp2_with fail
        go_quiet ((go_at_call 40; exact q_formed kf (s.extract i e) true HF.out _ _))
        all_goals
          have hx6 : Hid ((x5.drewN nq).heap = W.heap) := hx5.out
          have bx6 : Below B W (x5.drewN nq) := by apply pw_below_drewN; exact bx5
          generalize x5.drewN nq = x6 at hx6 bx6 ⊢
          clear c0 c1
          have c0 := (Sc.of_heap hx6.out H.out).c0
          have c1 := (Sc.of_heap hx6.out H.out).c1
          have htk := fun k => token_calls (x6.drewN k) 5 e (s.extract i e) (Sc.of_heap (W := W) (W1 := x6.drewN k) hx6.out H.out) hlen
          go_wp2_with fail
          go_region_with
            ((refine (htk _).mono ?_; rintro e0 w5 ⟨rfl, v5, S5, hb5⟩))
          all_goals
            go_wp2
            go_end0
            exact ⟨rfl, Or.inl ⟨rfl, v5, _, S5⟩, Below.trans (by apply pw_below_drewN; exact bx6) hb5⟩

set_option maxHeartbeats 8000000 in
set_option maxRecDepth 100000 in
theorem one_number_false {B b : Nat} {s : ByteArray} {toks : List Tok} {op : List Int} {vt vo : Value} (W : World) (i : Nat) (hi : i < s.size) (hs : s.size ≤ 1073741824) (ht : toks.length ≤ i) (hol : op.length ≤ i) (hop : ∀ y ∈ op, 0 ≤ y ∧ y ≤ (i : Int)) (c : Int) (hcc : bt s (i : Int) = c) (n34 : ¬ c = 34) (n36 : ¬ c = 36) (n46 : ¬ c = 46) (HL : Hid (word_isLetter.f c = some false)) (HG : Hid (word_isDigit.f c = some true)) (e : Nat) (he : runEnd numeralB s (s.size - i) i = e) (kf : Nat) (HF : Hid (tens_Formed.f kf (s.extract i e) = some false)) (h : Sc B b s i toks op 0 0 vt vo W) (hT : Tabs W) :
    Calls Tryd.prog 19 #[.pointer (some ⟨b, 0, none⟩)] W fun r w' => r = .returned (.tuple #[]) ∧ OneEnd B b s i toks op ⟨42, i, 0, ⟨#[]⟩, op⟩ w' ∧ Below B W w' := by
  have c0 := h.c0
  have c1 := h.c1
  have hi0 : (0 : Int) ≤ (i : Int) := by omega
  have hi1 : (i : Int) < (s.size : Int) := by omega
  have hb0 := bt_at s (i : Int) hi
  rw [hcc] at hb0
  have hx : ((s[i]'hi).toNat : Int) = c := hb0
  clear hb0 hcc
  have hlow := h.low
  have hlt := h.lt
  have H := Lib.hid h
  have HT := Lib.hid hT
  have HOP := Lib.hid hop
  clear h hT hop
  have hrun := run_inNumeral s i (by omega) (by omega)
  have hbd := runEnd_bounds numeralB s (s.size - i) i (by omega)
  rw [he] at hrun hbd
  clear he
  have he0 : (i : Int) ≤ (e : Int) := by omega
  have he1 : (e : Int) ≤ (s.size : Int) := by omega
  have hlen : (toks.length + 1) * 40 ≤ 140737488355328 := by omega
  have b36 : (c == 36) = false := beq_eq_false_iff_ne.2 n36
  have b46 : (c == 46) = false := beq_eq_false_iff_ne.2 n46
  go_enter Tryd.func19, Tryd.ntmps19
  go_wp2_with fail
  go_quiet (fail)
  all_goals
    have hx1 : Hid ((W.drewN nq).heap = W.heap) := rfl
    have bx1 : Below B W (W.drewN nq) := by apply pw_below_drewN; exact Below.refl _ _
    generalize W.drewN nq = x1 at hx1 bx1 ⊢
    clear c0 c1
    have c0 := (Sc.of_heap hx1.out H.out).c0
    have c1 := (Sc.of_heap hx1.out H.out).c1
    go_wp2_with (first
      | (go_at_call 33; (with_reducible refine (word_isLetter.calls c _ _ HL.out).mono ?_); rintro e0 w2 ⟨rfl, ⟨nl, rfl⟩⟩))
    have hx2 : Hid ((x1.drewN nl).heap = W.heap) := hx1.out
    have bx2 : Below B W (x1.drewN nl) := by apply pw_below_drewN; exact bx1
    generalize x1.drewN nl = x2 at hx2 bx2 ⊢
    clear c0 c1
    have c0 := (Sc.of_heap hx2.out H.out).c0
    have c1 := (Sc.of_heap hx2.out H.out).c1
    go_quiet (fail)
    all_goals
      have hx3 : Hid ((x2.drewN nq).heap = W.heap) := hx2.out
      have bx3 : Below B W (x2.drewN nq) := by apply pw_below_drewN; exact bx2
      generalize x2.drewN nq = x3 at hx3 bx3 ⊢
      clear c0 c1
      have c0 := (Sc.of_heap hx3.out H.out).c0
      have c1 := (Sc.of_heap hx3.out H.out).c1
      go_wp2_with (first
        | (go_at_call 38; (with_reducible refine (word_isDigit.calls c _ _ HG.out).mono ?_); rintro e0 w2 ⟨rfl, ⟨ng, rfl⟩⟩))
      have hx4 : Hid ((x3.drewN ng).heap = W.heap) := hx3.out
      have bx4 : Below B W (x3.drewN ng) := by apply pw_below_drewN; exact bx3
      generalize x3.drewN ng = x4 at hx4 bx4 ⊢
      clear c0 c1
      have c0 := (Sc.of_heap hx4.out H.out).c0
      have c1 := (Sc.of_heap hx4.out H.out).c1
      go_quiet ((go_at_call 29; exact q_run _ s i e hrun _ _))
      all_goals
        have hx5 : Hid ((x4.drewN nq).heap = W.heap) := hx4.out
        have bx5 : Below B W (x4.drewN nq) := by apply pw_below_drewN; exact bx4
        generalize x4.drewN nq = x5 at hx5 bx5 ⊢
        clear c0 c1
        have c0 := (Sc.of_heap hx5.out H.out).c0
        have c1 := (Sc.of_heap hx5.out H.out).c1
        go_wp2_with fail
        go_quiet ((go_at_call 40; exact q_formed kf (s.extract i e) false HF.out _ _))
        all_goals
          have hx6 : Hid ((x5.drewN nq).heap = W.heap) := hx5.out
          have bx6 : Below B W (x5.drewN nq) := by apply pw_below_drewN; exact bx5
          generalize x5.drewN nq = x6 at hx6 bx6 ⊢
          clear c0 c1
          have c0 := (Sc.of_heap hx6.out H.out).c0
          have c1 := (Sc.of_heap hx6.out H.out).c1
          have hfl := fail_calls x6 42 i (Sc.of_heap hx6.out H.out)
          go_wp2_with (first
            | (go_at_call 37; (with_reducible refine hfl.mono ?_); rintro e0 w5 ⟨rfl, S5, hb5⟩))
          refine bodyPost_ret (results_none rfl _ _ _) rfl ?_
          exact ⟨rfl, Or.inr ⟨by show (42 : Int) ≠ 0; decide, _, _, S5⟩, bx6.trans hb5⟩

end Go.Proofs.YthlmhnlfcnpocaaDoor.U
