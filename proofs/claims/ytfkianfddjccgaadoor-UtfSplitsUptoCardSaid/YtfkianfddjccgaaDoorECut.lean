/- The contract of utf.Cut in the printer's form: the pieces of a text from one number to another. -/
import Derived.Test.YtfkianfddjccgaaDoorU0
import Derived.Test.YtfkianfddjccgaaDoorUtf
import Derived.Test.YtfkianfddjccgaaDoorIter
import Derived.Test.YtfkianfddjccgaaDoorShelf
import Derived.Shelf.Strconv.Clone
import Derived.Lib.Hide
namespace Go.Proofs.YtfkianfddjccgaaDoor.U
open Go.RowKit Go.Proofs.YtfkianfddjccgaaDoorW.PrintWords

theorem clone_calls (s : ByteArray) (w : World) (hs : s.size ≤ 281474976710656) : Calls Tryd.prog 47 #[.string s] w fun e w' => e = .returned (.string s) ∧ Below w.heap.size w w' := by
  go_enter Tryd.func47, Tryd.ntmps47
  go_wp2_with (go_at_call 76; refine (Tryd.stringslite_Clone s _ hs).mono ?_; rintro e w1 ⟨rfl, hb⟩)
  go_ret
  exact ⟨rfl, hb⟩

/-- where a cut begins, once so many pieces are seen -/
def fromZ (s : ByteArray) (a : Int) (n : Nat) : Int := if a < n then (Utf.plcZ a s.data.toList : Int) else (s.size : Int)
/-- where a cut ends, once so many pieces are seen -/
def toZ (s : ByteArray) (b : Int) (n : Nat) : Int := if 0 ≤ b ∧ b < n then (Utf.plcZ b s.data.toList : Int) else (s.size : Int)

/-- the pieces from one number to another -/
def cutZ (s : ByteArray) (a b : Int) : ByteArray := if b ≤ max a 0 then ByteArray.empty else s.extract (Utf.plcZ a s.data.toList) (Utf.plcZ b s.data.toList)

theorem plcZ_le (s : ByteArray) (a : Int) : Utf.plcZ a s.data.toList ≤ s.size := by
  have := Utf.plc_le a.toNat s.data.toList
  rw [← Lib.size_eq] at this
  exact this

theorem from_eq (s : ByteArray) (a : Int) (n : Nat) (h : (n : Int) = a) : ((Utf.plc n s.data.toList : Nat) : Int) = fromZ s a (n + 1) := by
  unfold fromZ Utf.plcZ
  rw [if_pos (by omega), ← h]
  rfl
theorem from_ne (s : ByteArray) (a : Int) (n : Nat) (h : (n : Int) ≠ a) : fromZ s a n = fromZ s a (n + 1) := by
  unfold fromZ
  by_cases g : a < n
  · rw [if_pos g, if_pos (by omega)]
  · rw [if_neg g, if_neg (by omega)]
theorem to_eq (s : ByteArray) (a : Int) (n : Nat) (h : (n : Int) = a) : ((Utf.plc n s.data.toList : Nat) : Int) = toZ s a (n + 1) := by
  unfold toZ Utf.plcZ
  rw [if_pos (by omega), ← h]
  rfl
theorem to_ne (s : ByteArray) (a : Int) (n : Nat) (h : (n : Int) ≠ a) : toZ s a n = toZ s a (n + 1) := by
  unfold toZ
  by_cases g : 0 ≤ a ∧ a < n
  · rw [if_pos g, if_pos (by omega)]
  · rw [if_neg g, if_neg (by omega)]

/-- behind the last piece: where the cut begins and ends -/
theorem from_end (s : ByteArray) (a : Int) (n : Nat) (h : ¬ Utf.plc n s.data.toList < s.size) : fromZ s (max a 0) n = (Utf.plcZ a s.data.toList : Int) := by
  have hn := Utf.plc_size (n := n) (l := s.data.toList) (by rw [← Lib.size_eq]; exact h)
  unfold fromZ Utf.plcZ
  split
  · congr 2
    omega
  · rw [Utf.plc_end a.toNat _ (by omega), ← Lib.size_eq]
theorem to_end (s : ByteArray) (b : Int) (n : Nat) (h : ¬ Utf.plc n s.data.toList < s.size) (hb : 0 ≤ b) : toZ s b n = (Utf.plcZ b s.data.toList : Int) := by
  have hn := Utf.plc_size (n := n) (l := s.data.toList) (by rw [← Lib.size_eq]; exact h)
  unfold toZ Utf.plcZ
  split
  · rfl
  · rw [Utf.plc_end b.toNat _ (by omega), ← Lib.size_eq]

set_option maxHeartbeats 4000000 in
set_option maxRecDepth 100000 in
theorem cut_calls (s : ByteArray) (a b : Int) (hs : s.size ≤ 140737488351232) (w : World) :
    Calls Tryd.prog 20 #[.string s, .int .i64 a, .int .i64 b] w fun e w' => e = .returned (.string (cutZ s a b)) ∧ Below w.heap.size w w' := by
  go_enter Tryd.func20, Tryd.ntmps20
  go_wp2
  go_loopw [7, 8, 9] (fun x y z wr => ∃ n : Nat, z = .int .i64 n ∧ x = .int .i64 (fromZ s (max a 0) n) ∧ y = .int .i64 (toZ s b n) ∧ Hid (n ≤ Utf.plc n s.data.toList) ∧ wr.heap[w.heap.size]? = some (.stringIter s (Utf.plc n s.data.toList)) ∧ Below w.heap.size w wr) (fun _ _ _ wr => s.size - wr.iterPos w.heap.size)
  case atStart =>
    refine ⟨0, rfl, ?_, ?_, ?_, ?_, (Below.refl _ w).alloc (Nat.le_refl _) _⟩
    · unfold fromZ
      rw [if_neg (by omega)]
    · unfold toZ
      rw [if_neg (by omega)]
    · exact Nat.zero_le _
    · exact World.iter_heap w s 0
  case round =>
    obtain ⟨n, rfl, rfl, rfl, HN, hit, hbw⟩ := hrel
    have hsz : w.heap.size < wr.heap.size := (Array.getElem?_eq_some_iff.1 hit).1
    obtain ⟨pos, hpos⟩ : ∃ pos, pos = Utf.plc n s.data.toList := ⟨_, rfl⟩
    rw [← hpos] at hit
    have HNP : n ≤ pos := by rw [hpos]; exact HN.out
    have HPL : pos ≤ s.size := by
      have := Utf.plc_le n s.data.toList
      rw [← Lib.size_eq] at this
      omega
    by_cases hp : pos < s.size
    · have hnx : ∀ ty, (Instr.next (.pointer (some ⟨w.heap.size, 0, none⟩)) true ty).run Tryd.prog wr = _ := fun ty => Lib.run_next_any_at wr w.heap.size s pos ty hit hp
      have hwd := (Utf.at_width s pos hp).1
      have hwe := (Utf.at_width s pos hp).2
      have hit2 := Lib.iterAt_heap wr w.heap.size s pos (pos + (Utf8.decode s pos).2) hit
      have hbw2 := Lib.below_iterAt hbw (k := w.heap.size) (by omega) s (pos + (Utf8.decode s pos).2)
      have HQ : Hid (Utf.plc (n + 1) s.data.toList = pos + (Utf8.decode s pos).2) := by
        rw [hpos] at hp ⊢
        exact Utf.plc_at s n hp
      have HP : Hid (pos = Utf.plc n s.data.toList) := hpos
      clear hpos
      go_wp2
      all_goals
        refine ⟨⟨n + 1, rfl, ?_, ?_, ?_, ?_, hbw2⟩, ?_⟩
        · first
            | (rw [HP.out]; exact congrArg _ (from_eq s (max a 0) n (eq_of_beq (by assumption))))
            | exact congrArg _ (from_ne s (max a 0) n (by intro e; have e2 := beq_iff_eq.2 e; simp_all; done))
        · first
            | (rw [HP.out]; exact congrArg _ (to_eq s b n (eq_of_beq (by assumption))))
            | exact congrArg _ (to_ne s b n (by intro e; have e2 := beq_iff_eq.2 e; simp_all; done))
        · show n + 1 ≤ Utf.plc (n + 1) s.data.toList
          rw [HQ.out]
          omega
        · rw [HQ.out]
          exact hit2
        · simp only [World.iterPos, hit2, hit]
          omega
    · have hnx : ∀ ty, (Instr.next (.pointer (some ⟨w.heap.size, 0, none⟩)) true ty).run Tryd.prog wr = _ := fun ty => Lib.run_next_end_at wr w.heap.size s pos ty hit hp
      rw [hpos] at hp
      rw [from_end s a n hp]
      by_cases hab : b ≤ max a 0
      · have HC : Hid (cutZ s a b = ByteArray.empty) := if_pos hab
        obtain ⟨z, hz⟩ : ∃ z, z = toZ s b n := ⟨_, rfl⟩
        rw [← hz]
        clear hz hp
        go_wp2
        go_ret
        exact ⟨congrArg (fun z => Ending.returned (.string z)) HC.out.symm, hbw⟩
      · rw [to_end s b n hp (by omega)]
        have HC : Hid (cutZ s a b = s.extract (Utf.plcZ a s.data.toList) (Utf.plcZ b s.data.toList)) := if_neg hab
        have hm : Utf.plcZ a s.data.toList ≤ Utf.plcZ b s.data.toList := Utf.plc_mono _ _ _ (by omega)
        have hle := plcZ_le s b
        obtain ⟨p, hp1⟩ : ∃ p, p = Utf.plcZ a s.data.toList := ⟨_, rfl⟩
        obtain ⟨q, hq1⟩ : ∃ q, q = Utf.plcZ b s.data.toList := ⟨_, rfl⟩
        rw [← hp1, ← hq1] at HC hm
        rw [← hq1] at hle
        rw [← hp1, ← hq1]
        clear hp hp1 hq1
        have hx : (s.extract p q).size ≤ 281474976710656 := by
          rw [ByteArray.size_extract]
          omega
        go_wp2_with (go_at_call 47; refine (clone_calls (s.extract p q) _ hx).mono ?_; rintro e w1 ⟨rfl, hb1⟩)
        go_ret
        exact ⟨congrArg (fun z => Ending.returned (.string z)) HC.out.symm, hbw.trans (hb1.mono (by omega))⟩

def utf_Cut.f (a0 : ByteArray) (a1 a2 : Int) : Option ByteArray := if a0.size ≤ 140737488351232 then some (cutZ a0 a1 a2) else none

theorem utf_Cut.calls (a0 : ByteArray) (a1 a2 : Int) (r : ByteArray) (w : World) (h : utf_Cut.f a0 a1 a2 = some r) :
    Calls Tryd.prog 20 #[.string a0, .int .i64 a1, .int .i64 a2] w fun e w' => e = .returned (.string r) ∧ Below w.heap.size w w' := by
  unfold utf_Cut.f at h
  split at h
  case isFalse => cases h
  rename_i hs
  obtain rfl := Option.some.inj h
  exact cut_calls a0 a1 a2 hs w

end Go.Proofs.YtfkianfddjccgaaDoor.U
