/- The contract of utf.Text in the printer's form: the encodings of a list's runes, one behind the other (what is no rune counts as FFFD); the list has at most 2^45 - 1 of them. -/
import Derived.Test.YtfkianfddjccgaaDoorUL0x0
import Derived.Test.YtfkianfddjccgaaDoorBuilder
namespace Go.Proofs.YtfkianfddjccgaaDoor.U
open Go.RowKit Go.Proofs.YtfkianfddjccgaaDoorW.PrintWords

/-- a rune, or the one that stands for what is none -/
def properZ (r : Int) : Int := if (0 ≤ r ∧ r < 55296) ∨ (57343 < r ∧ r ≤ 1114111) then r else 65533

theorem proper_eq (k : Nat) (r : Int) : utf_proper.f (k + 1) r = some (properZ r) := by
  unfold utf_proper.f utf8_ValidRune.f utf8_ValidRune.j0 properZ
  by_cases h0 : 0 ≤ r
  · rw [if_pos h0]
    by_cases h1 : r < 55296
    · simp [h1, h0]
    · simp only [h1, decide_false]
      by_cases h2 : 57343 < r
      · by_cases h3 : r ≤ 1114111
        · simp [h2, h3]
        · simp [h2, h3]
      · simp [h2]
  · rw [if_neg h0]
    have h2 : ¬ 57343 < r := by omega
    simp [h2, h0]

theorem properZ_range (r : Int) : 0 ≤ properZ r ∧ properZ r ≤ 1114111 := by
  unfold properZ
  split <;> omega

theorem encode_proper (r : Int) : Lib.encodeRune (properZ r) = Lib.encodeRune r := by
  unfold properZ
  split
  · rfl
  · rename_i h
    unfold Lib.encodeRune
    rw [Lib.encodeRuneZ_bad (r := r) (by omega)]
    rfl

def utf_Text.f (l0 : List Int) : Option ByteArray := if l0.length < 35184372088832 then some ⟨(l0.flatMap Lib.encodeRune).toArray⟩ else none

theorem flat_snoc (l : List Int) (i : Nat) (h : i < l.length) : (l.take (i + 1)).flatMap Lib.encodeRune = (l.take i).flatMap Lib.encodeRune ++ Lib.encodeRune (rd l i) := by
  rw [List.take_succ_eq_append_getElem h, List.flatMap_append]
  have : rd l (i : Int) = l[i] := by
    unfold rd
    rw [Int.toNat_natCast, List.getD_eq_getElem?_getD, List.getElem?_eq_getElem h]
    rfl
  rw [this]
  simp
theorem flat_length (l : List Int) : (l.flatMap Lib.encodeRune).length ≤ 4 * l.length := by
  induction l with
  | nil => simp
  | cons a t ih =>
    have h := (Lib.runeCells_le a).2
    rw [Lib.runeCells_length] at h
    simp only [List.flatMap_cons, List.length_append, List.length_cons]
    omega

set_option maxHeartbeats 4000000 in
set_option maxRecDepth 100000 in
theorem utf_Text.calls (A0 : Option Addr) (c0 : Nat) (l0 : List Int) (r : ByteArray) (w : World) (hr0 : Kd.C (Kd.int .i32) w A0 l0.length l0) (_ : l0.length ≤ c0) (h : utf_Text.f l0 = some r) :
    Calls Tryd.prog 28 #[.slice A0 l0.length c0] w fun e w' => e = .returned (.string r) ∧ Below w.heap.size w w' := by
  unfold utf_Text.f at h
  split at h
  case isFalse => cases h
  rename_i hs
  have HR : Hid (⟨(l0.flatMap Lib.encodeRune).toArray⟩ = r) := Option.some.inj h
  have HC := Aside0.mk hr0
  clear h hr0
  go_enter Tryd.func28, Tryd.ntmps28
  go_wp2
  go_loopw [9] (fun v wr => ∃ i : Nat, v = .int .i64 i ∧ i ≤ l0.length ∧ Bld.Is w.heap.size w.heap.size (Lib.byteCells ((l0.take i).flatMap Lib.encodeRune)) wr ∧ Below w.heap.size w wr) (fun v _ => l0.length - (intOf v).toNat)
  case atStart => exact ⟨0, rfl, Nat.zero_le _, Lib.fresh_isBuilder 67 5 w, (Below.refl _ w).alloc (Nat.le_refl _) _⟩
  case round =>
    obtain ⟨i, rfl, hi, hI, hbw⟩ := hrel
    by_cases hlt : i < l0.length
    · have p1 : (0 : Int) ≤ (i : Int) := by omega
      have q1 : (i : Int) < (l0.length : Int) := by omega
      obtain ⟨ad, e1, hx⟩ := Kd.at_int HC.out (i : Int) p1 q1
      cases e1
      rw [Int.toNat_natCast] at hx
      replace hx := (hbw.cell (World.block_lt_of_cell? w _ hx)).trans hx
      have hfl := flat_length (l0.take i)
      have htl : (l0.take i).length ≤ i := List.length_take_le _ _
      have hpr := properZ_range (rd l0 i)
      have HP := Aside0.mk (proper_eq 0 (rd l0 i))
      go_wp2_with (go_at_call 56; refine (utf_proper.calls 1 (rd l0 i) (properZ (rd l0 i)) _ HP.out).mono ?_; rintro e w' ⟨rfl, ⟨nd, rfl⟩⟩)
      have hI2 : Bld.Is w.heap.size w.heap.size (Lib.byteCells ((l0.take i).flatMap Lib.encodeRune)) (wr.drewN nd) := hI
      have hz2 : w.heap.size ≤ (wr.drewN nd).heap.size := hbw.size
      refine (Bld.WriteRune w.heap.size w.heap.size _ (properZ (rd l0 i)) (by omega) (by omega) _ hI2 (by rw [Lib.byteCells_length]; omega) hz2).mono ?_
      rintro e w1 ⟨rfl, h1, b1, k1⟩
      go_wp2
      go_roundw
      case rel =>
        refine ⟨i + 1, by go_num, by omega, ?_, Below.trans (b := wr.drewN nd) (by apply pw_below_drewN; exact hbw) b1⟩
        rw [flat_snoc l0 i hlt, Lib.byteCells_append, ← encode_proper, Lib.byteCells_encodeRune]
        exact Or.inr h1
      case measure => simp [intOf]; omega
    · go_wp2_with (go_at_call 49; refine (Bld.String w.heap.size w.heap.size ((l0.take i).flatMap Lib.encodeRune) _ hI hbw.size).mono ?_)
      rintro e w1 ⟨rfl, b1⟩
      go_wp2
      go_ret
      refine ⟨?_, hbw.trans b1⟩
      have : l0.take i = l0 := List.take_of_length_le (by omega)
      rw [this]
      exact congrArg (fun z => Ending.returned (.string z)) HR.out

end Go.Proofs.YtfkianfddjccgaaDoor.U
