/- The contract of utf.Unquote in the printer's form: the text of the literal that begins at a place, and the place behind it; or an error and its place. -/
import Derived.Test.YtkfcoikfhpabmaaDoorDec
import Derived.Test.YtkfcoikfhpabmaaDoorBuilderR
import Derived.Test.YtkfcoikfhpabmaaDoorTabs
import Derived.Test.YtkfcoikfhpabmaaDoorUtf
import Derived.Shelf.Unicode.DecodeSlow
namespace Go.Proofs.YtkfcoikfhpabmaaDoor.U
open Go.RowKit Go.Proofs.YtkfcoikfhpabmaaDoorW.PrintWords

/-- the text of a literal from a place behind its sign on, once some of it is read -/
def unq (s : ByteArray) : Nat → Nat → List UInt8 → ByteArray × Int × Int
  | 0, _, _ => (ByteArray.empty, s.size, 21)
  | f + 1, pos, acc =>
    if pos < s.size then
      if (Utf8.decode s pos).1 = 34 then (⟨acc.toArray⟩, pos + 1, 0)
      else if (Utf8.decode s pos).1 < 32 then (ByteArray.empty, pos, 22)
      else if (Utf8.decode s pos).1 = 65533 ∧ (Utf8.decode s pos).2 = 1 then (ByteArray.empty, pos, 20)
      else if (Utf8.decode s pos).1 = 92 then
        if (escT (s.extract pos s.size)).2.2 = 0 then unq s f (pos + (escT (s.extract pos s.size)).2.1.toNat) (acc ++ Lib.encodeRune (escT (s.extract pos s.size)).1)
        else (ByteArray.empty, pos, (escT (s.extract pos s.size)).2.2)
      else unq s f (pos + (Utf8.decode s pos).2) (acc ++ Lib.encodeRune ((Utf8.decode s pos).1 : Int))
    else (ByteArray.empty, s.size, 21)

theorem unq_end (s : ByteArray) (f pos : Nat) (acc : List UInt8) (h : ¬ pos < s.size) : unq s f pos acc = (ByteArray.empty, (s.size : Int), 21) := by
  cases f with
  | zero => rfl
  | succ f =>
    unfold unq
    rw [if_neg h]

/-- the literal that begins at a place -/
def unqAt (s : ByteArray) (a : Int) : ByteArray × Int × Int :=
  if a < 0 ∨ a ≥ s.size then (ByteArray.empty, 0, 2)
  else if bt s a ≠ 34 then (ByteArray.empty, a, 21)
  else unq s s.size (a.toNat + 1) []

-- WALK
/-- what an answer is -/
def unqE (q : ByteArray × Int × Int) : Ending := .returned (.tuple #[.string q.1, .int .i64 q.2.1, .int .i64 q.2.2])

set_option maxHeartbeats 8000000 in
set_option maxRecDepth 100000 in
theorem unquote_body (s : ByteArray) (p : Nat) (hp0 : p < s.size) (h34 : bt s p = 34) (hs : s.size ≤ 35184372088830) (R : ByteArray × Int × Int) (hR : unq s s.size (p + 1) [] = R) (w : World) (hT : Tabs w) :
    Calls Tryd.prog 42 #[.string s, .int .i64 p] w fun e w' => e = unqE R ∧ Below w.heap.size w w' := by
  have b34 : ((s[p]'hp0).toNat : Int) = 34 := by rw [← h34]; exact bt_at s p hp0
  have HR : Hid (unq s s.size (p + 1) [] = R) := hR
  clear hR h34
  have hpn : ¬ ((p : Int) < 0) := by omega
  have hpz : ¬ ((p : Int) ≥ (s.size : Int)) := by omega
  go_enter Tryd.func42, Tryd.ntmps42
  go_wp2
  go_loopw [1] (fun x wr => ∃ (pos f : Nat) (acc : List UInt8), x = .int .i64 pos ∧ Hid (unq s f pos acc = R) ∧ s.size ≤ pos + f ∧ pos ≤ s.size ∧ acc.length ≤ 4 * pos ∧ Bld.Is w.heap.size w.heap.size (Lib.byteCells acc) wr ∧ Below w.heap.size w wr) (fun x _ => s.size - (intOf x).toNat)
  case atStart => exact ⟨p + 1, s.size, [], by go_num, HR, by omega, by omega, by simp, Lib.fresh_isBuilder 73 5 w, (Below.refl _ w).alloc (Nat.le_refl _) _⟩
  case round =>
    clear b34 hp0 HR hpn hpz
    obtain ⟨pos, f, acc, rfl, HU, hf, hpl, hal, hI, hbw⟩ := hrel
    by_cases hp : pos < s.size
    · obtain ⟨f, rfl⟩ : ∃ g, f = g + 1 := ⟨f - 1, by omega⟩
      have hTr : Tabs wr := hT.below hbw
      have hD := dec_calls s pos hp wr hTr
      have hwd := Utf.at_width s pos hp
      have hrr := Utf.decode_range s pos
      rw [unq.eq_def] at HU
      simp only at HU
      rw [if_pos hp] at HU
      obtain ⟨rr, hr⟩ : ∃ x, x = (Utf8.decode s pos).1 := ⟨_, rfl⟩
      obtain ⟨nn, hn⟩ : ∃ x, x = (Utf8.decode s pos).2 := ⟨_, rfl⟩
      rw [← hr, ← hn] at HU hD
      rw [← hn] at hwd
      rw [← hr] at hrr
      clear hr hn
      by_cases g1 : rr = 34
      · subst g1
        have HE : Hid (((⟨acc.toArray⟩ : ByteArray), (pos : Int) + 1, (0 : Int)) = R) := by
          refine Eq.trans ?_ HU.out
          rw [if_pos rfl]
        clear HU
        go_wp2_with (first
            | (go_at_call 49; (with_reducible refine hD.mono ?_); rintro e w1 ⟨rfl, hb1⟩)
            | (go_at_call 50; (with_reducible refine (Bld.String w.heap.size w.heap.size acc _ (hI.below hb1) (Nat.le_trans hbw.size hb1.size)).mono ?_); rintro e w2 ⟨rfl, hb2⟩)
            | (go_at_call 51; (with_reducible refine (utf_Escape.calls s pos q1 _ _ _ HQ.out).mono ?_); rintro e w2 ⟨rfl, hb2⟩))
        go_ret3
        exact ⟨congrArg unqE HE.out, (hbw.trans (hb1.mono hbw.size)).trans hb2⟩
      by_cases g2 : rr < 32
      · have HE : Hid ((ByteArray.empty, (pos : Int), (22 : Int)) = R) := by
          refine Eq.trans ?_ HU.out
          rw [if_neg g1, if_pos g2]
        clear HU
        go_wp2_with (first
            | (go_at_call 49; (with_reducible refine hD.mono ?_); rintro e w1 ⟨rfl, hb1⟩)
            | (go_at_call 50; (with_reducible refine (Bld.String w.heap.size w.heap.size acc _ (hI.below hb1) (Nat.le_trans hbw.size hb1.size)).mono ?_); rintro e w2 ⟨rfl, hb2⟩)
            | (go_at_call 51; (with_reducible refine (utf_Escape.calls s pos q1 _ _ _ HQ.out).mono ?_); rintro e w2 ⟨rfl, hb2⟩))
        go_ret3
        exact ⟨congrArg unqE HE.out, hbw.trans (hb1.mono hbw.size)⟩
      by_cases g3 : rr = 65533 ∧ nn = 1
      · have HE : Hid ((ByteArray.empty, (pos : Int), (20 : Int)) = R) := by
          refine Eq.trans ?_ HU.out
          rw [if_neg g1, if_neg g2, if_pos g3]
        obtain ⟨g3a, g3b⟩ := g3
        subst g3a g3b
        clear HU g1 g2
        go_wp2_with (first
            | (go_at_call 49; (with_reducible refine hD.mono ?_); rintro e w1 ⟨rfl, hb1⟩)
            | (go_at_call 50; (with_reducible refine (Bld.String w.heap.size w.heap.size acc _ (hI.below hb1) (Nat.le_trans hbw.size hb1.size)).mono ?_); rintro e w2 ⟨rfl, hb2⟩)
            | (go_at_call 51; (with_reducible refine (utf_Escape.calls s pos q1 _ _ _ HQ.out).mono ?_); rintro e w2 ⟨rfl, hb2⟩))
        go_ret3
        exact ⟨congrArg unqE HE.out, hbw.trans (hb1.mono hbw.size)⟩
      by_cases g4 : rr = 92
      · subst g4
        have HU2 := HU
        rw [if_neg (show ¬ (92 : Nat) = 34 by decide), if_neg (show ¬ (92 : Nat) < 32 by decide), if_neg (show ¬ ((92 : Nat) = 65533 ∧ nn = 1) by omega), if_pos rfl] at HU2
        have hER := escT_range (s.extract pos s.size)
        have hq : Aside0 (utf_Escape.f s pos = some ((escT (s.extract pos s.size)).1, (pos : Int) + (escT (s.extract pos s.size)).2.1, (escT (s.extract pos s.size)).2.2)) := ⟨by
          unfold utf_Escape.f
          rw [if_pos (by omega), if_neg (by omega), Int.toNat_natCast]⟩
        have hes : (s.extract pos s.size).size = s.size - pos := by rw [ByteArray.size_extract]; omega
        rw [hes] at hER
        obtain ⟨q1, e1⟩ : ∃ x, x = (escT (s.extract pos s.size)).1 := ⟨_, rfl⟩
        obtain ⟨qa, e2⟩ : ∃ x, x = (escT (s.extract pos s.size)).2.1 := ⟨_, rfl⟩
        obtain ⟨q3, e3⟩ : ∃ x, x = (escT (s.extract pos s.size)).2.2 := ⟨_, rfl⟩
        rw [← e1, ← e2, ← e3] at hER hq HU2
        have HQ := hq
        clear e1 e2 e3 hq HU g1 g2 g3 hes
        by_cases g5 : q3 = 0
        · subst g5
          obtain ⟨r0, r1, r2, r3⟩ := hER rfl
          obtain ⟨z, rfl⟩ : ∃ z : Nat, qa = z := ⟨qa.toNat, by omega⟩
          have HE : Hid (unq s f (pos + z) (acc ++ Lib.encodeRune q1) = R) := by
            refine Eq.trans ?_ HU2.out
            rw [if_pos rfl, Int.toNat_natCast]
          clear HU2 hER
          go_wp2_with (first
              | (go_at_call 49; (with_reducible refine hD.mono ?_); rintro e w1 ⟨rfl, hb1⟩)
              | (go_at_call 50; (with_reducible refine (Bld.String w.heap.size w.heap.size acc _ (hI.below hb1) (Nat.le_trans hbw.size hb1.size)).mono ?_); rintro e w2 ⟨rfl, hb2⟩)
              | (go_at_call 51; (with_reducible refine (utf_Escape.calls s pos q1 _ _ _ HQ.out).mono ?_); rintro e w2 ⟨rfl, hb2⟩)
              | (go_at_call 52; (with_reducible refine (Bld.WriteRune w.heap.size w.heap.size _ q1 (by omega) (by omega) _ ((hI.below hb1).below hb2) (by rw [Lib.byteCells_length]; omega) ((hbw.trans (hb1.mono hbw.size)).trans (hb2.mono (Nat.le_trans hbw.size hb1.size))).size).mono ?_); rintro e w3 ⟨rfl, h3, b3, k3⟩))
          case roundEnd =>
            refine ⟨⟨pos + z, f, acc ++ Lib.encodeRune q1, by first | go_num | (congr 1; omega), HE, by omega, by omega, ?_, ?_, ((hbw.trans (hb1.mono hbw.size)).trans (hb2.mono (Nat.le_trans hbw.size hb1.size))).trans b3⟩, ?_⟩
            · have h4 := (Lib.runeCells_le q1).2
              rw [Lib.runeCells_length] at h4
              simp only [List.length_append]
              omega
            · rw [Lib.byteCells_append, Lib.byteCells_encodeRune]
              exact Or.inr h3
            · simp [intOf]; omega
        · have HE : Hid ((ByteArray.empty, (pos : Int), q3) = R) := by
            refine Eq.trans ?_ HU2.out
            rw [if_neg g5]
          clear HU2 hER
          go_wp2_with (first
              | (go_at_call 49; (with_reducible refine hD.mono ?_); rintro e w1 ⟨rfl, hb1⟩)
              | (go_at_call 50; (with_reducible refine (Bld.String w.heap.size w.heap.size acc _ (hI.below hb1) (Nat.le_trans hbw.size hb1.size)).mono ?_); rintro e w2 ⟨rfl, hb2⟩)
              | (go_at_call 51; (with_reducible refine (utf_Escape.calls s pos q1 _ _ _ HQ.out).mono ?_); rintro e w2 ⟨rfl, hb2⟩))
          go_ret3
          exact ⟨congrArg unqE HE.out, (hbw.trans (hb1.mono hbw.size)).trans (hb2.mono (Nat.le_trans hbw.size hb1.size))⟩
      by_cases g5 : rr = 65533
      · subst g5
        have g6 : ¬ nn = 1 := fun g => g3 ⟨rfl, g⟩
        have HE : Hid (unq s f (pos + nn) (acc ++ Lib.encodeRune 65533) = R) := by
          refine Eq.trans ?_ HU.out
          rw [if_neg g1, if_neg g2, if_neg g3, if_neg g4]
          rfl
        clear HU g1 g2 g3 g4
        go_wp2_with (first
            | (go_at_call 49; (with_reducible refine hD.mono ?_); rintro e w1 ⟨rfl, hb1⟩)
            | (go_at_call 50; (with_reducible refine (Bld.String w.heap.size w.heap.size acc _ (hI.below hb1) (Nat.le_trans hbw.size hb1.size)).mono ?_); rintro e w2 ⟨rfl, hb2⟩)
            | (go_at_call 51; (with_reducible refine (utf_Escape.calls s pos q1 _ _ _ HQ.out).mono ?_); rintro e w2 ⟨rfl, hb2⟩)
            | (go_at_call 52; (with_reducible refine (Bld.WriteRune w.heap.size w.heap.size _ 65533 (by omega) (by omega) _ (hI.below hb1) (by rw [Lib.byteCells_length]; omega) (hbw.trans (hb1.mono hbw.size)).size).mono ?_); rintro e w3 ⟨rfl, h3, b3, k3⟩))
        case roundEnd =>
          refine ⟨⟨pos + nn, f, acc ++ Lib.encodeRune 65533, by go_num, HE, by omega, by omega, ?_, ?_, (hbw.trans (hb1.mono hbw.size)).trans b3⟩, ?_⟩
          · have h4 := (Lib.runeCells_le 65533).2
            rw [Lib.runeCells_length] at h4
            simp only [List.length_append]
            omega
          · rw [Lib.byteCells_append, Lib.byteCells_encodeRune]
            exact Or.inr h3
          · simp [intOf]; omega
      · have HE : Hid (unq s f (pos + nn) (acc ++ Lib.encodeRune (rr : Int)) = R) := by
          refine Eq.trans ?_ HU.out
          rw [if_neg g1, if_neg g2, if_neg g3, if_neg g4]
        clear HU g3
        go_wp2_with (first
            | (go_at_call 49; (with_reducible refine hD.mono ?_); rintro e w1 ⟨rfl, hb1⟩)
            | (go_at_call 50; (with_reducible refine (Bld.String w.heap.size w.heap.size acc _ (hI.below hb1) (Nat.le_trans hbw.size hb1.size)).mono ?_); rintro e w2 ⟨rfl, hb2⟩)
            | (go_at_call 51; (with_reducible refine (utf_Escape.calls s pos q1 _ _ _ HQ.out).mono ?_); rintro e w2 ⟨rfl, hb2⟩)
            | (go_at_call 52; (with_reducible refine (Bld.WriteRune w.heap.size w.heap.size _ (rr : Int) (by omega) (by omega) _ (hI.below hb1) (by rw [Lib.byteCells_length]; omega) (hbw.trans (hb1.mono hbw.size)).size).mono ?_); rintro e w3 ⟨rfl, h3, b3, k3⟩))
        case roundEnd =>
          refine ⟨⟨pos + nn, f, acc ++ Lib.encodeRune (rr : Int), by go_num, HE, by omega, by omega, ?_, ?_, (hbw.trans (hb1.mono hbw.size)).trans b3⟩, ?_⟩
          · have h4 := (Lib.runeCells_le (rr : Int)).2
            rw [Lib.runeCells_length] at h4
            simp only [List.length_append]
            omega
          · rw [Lib.byteCells_append, Lib.byteCells_encodeRune]
            exact Or.inr h3
          · simp [intOf]; omega
    · have HE : Hid ((ByteArray.empty, (s.size : Int), (21 : Int)) = R) := by
        refine Eq.trans ?_ HU.out
        exact (unq_end s f pos acc hp).symm
      clear HU
      go_wp2
      go_ret3
      exact ⟨congrArg unqE HE.out, hbw⟩


set_option maxHeartbeats 4000000 in
theorem unquote_out (s : ByteArray) (a : Int) (h : a < 0 ∨ a ≥ s.size) (w : World) :
    Calls Tryd.prog 42 #[.string s, .int .i64 a] w fun e w' => e = unqE (ByteArray.empty, 0, 2) ∧ Below w.heap.size w w' := by
  rcases (show a < 0 ∨ (¬ a < 0 ∧ a ≥ s.size) by omega) with h | h
  · go_enter Tryd.func42, Tryd.ntmps42
    go_wp2
    go_ret3
    exact ⟨rfl, Below.refl _ _⟩
  · obtain ⟨h0, h1⟩ := h
    go_enter Tryd.func42, Tryd.ntmps42
    go_wp2
    go_ret3
    exact ⟨rfl, Below.refl _ _⟩

set_option maxHeartbeats 4000000 in
theorem unquote_not (s : ByteArray) (p : Nat) (hp0 : p < s.size) (h34 : bt s p ≠ 34) (w : World) :
    Calls Tryd.prog 42 #[.string s, .int .i64 p] w fun e w' => e = unqE (ByteArray.empty, p, 21) ∧ Below w.heap.size w w' := by
  have hpn : ¬ ((p : Int) < 0) := by omega
  have hpz : ¬ ((p : Int) ≥ (s.size : Int)) := by omega
  have b34 : ((s[p]'hp0).toNat : Int) ≠ 34 := fun e => h34 ((bt_at s p hp0).symm.trans e)
  clear h34
  go_enter Tryd.func42, Tryd.ntmps42
  go_wp2
  all_goals first
    | (go_ret3; exact ⟨rfl, Below.refl _ _⟩)
    | (exfalso; first | omega | (simp_all; done) | (simp at *; omega))

def utf_Unquote.f (a0 : ByteArray) (a1 : Int) : Option (ByteArray × Int × Int) := if a0.size ≤ 35184372088830 then some (unqAt a0 a1) else none

theorem utf_Unquote.calls (a0 : ByteArray) (a1 : Int) (r1 : ByteArray) (r2 : Int) (r3 : Int) (w : World) (hT : Tabs w) (h : utf_Unquote.f a0 a1 = some (r1, r2, r3)) :
    Calls Tryd.prog 42 #[.string a0, .int .i64 a1] w fun e w' => e = .returned (.tuple #[.string r1, .int .i64 r2, .int .i64 r3]) ∧ Below w.heap.size w w' := by
  unfold utf_Unquote.f at h
  split at h
  case isFalse => cases h
  rename_i hs
  have h := Option.some.inj h
  unfold unqAt at h
  split at h
  · rename_i hc
    have := unquote_out a0 a1 hc w
    rw [h] at this
    exact this
  · rename_i hc
    obtain ⟨p, rfl⟩ : ∃ p : Nat, a1 = p := ⟨a1.toNat, by omega⟩
    split at h
    · rename_i h34
      have := unquote_not a0 p (by omega) h34 w
      rw [h] at this
      exact this
    · rename_i h34
      rw [Int.toNat_natCast] at h
      exact unquote_body a0 p (by omega) (by simpa using h34) hs _ h w hT

end Go.Proofs.YtkfcoikfhpabmaaDoor.U
