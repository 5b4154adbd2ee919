/- The contract of utf.Runes in the printer's form: what a text's pieces stand for, in new memory; the text has at most 2^45 bytes. -/
import Derived.Test.YtfkianfddjccgaaDoorU0
import Derived.Test.YtfkianfddjccgaaDoorUtf
import Derived.Test.YtfkianfddjccgaaDoorIter
import Derived.Lib.Hide
namespace Go.Proofs.YtfkianfddjccgaaDoor.U
open Go.RowKit Go.Proofs.YtfkianfddjccgaaDoorW.PrintWords

def utf_Runes.f (a0 : ByteArray) : Option (List Int) := if a0.size ≤ 35184372088832 then some (Utf.runes a0.data.toList) else none

set_option maxHeartbeats 4000000 in
set_option maxRecDepth 100000 in
theorem utf_Runes.calls (a0 : ByteArray) (r : List Int) (w : World) (h : utf_Runes.f a0 = some r) :
    Calls Tryd.prog 31 #[.string a0] w fun e w' => ∃ v0_ : Value, e = .returned (v0_) ∧ Kd.R (Kd.int .i32) 21 w' w.heap.size (fun _ => True) v0_ r ∧ Below w.heap.size w w' := by
  unfold utf_Runes.f at h
  split at h
  case isFalse => cases h
  rename_i hs
  have hr := Option.some.inj h
  clear h
  obtain ⟨i0, hi, hz0, hz1, hz2⟩ := info_parts info21
  have HI := Lib.hid hi
  have HZ0 := Lib.hid hz0
  have HZ1 := Lib.hid hz1
  have HZ2 := Lib.hid hz2
  clear hi hz0 hz1 hz2
  have HR : Hid (Utf.runes a0.data.toList = r) := hr
  clear hr
  go_enter Tryd.func31, Tryd.ntmps31
  go_wp2
  go_loopw [3] (fun v wr => ∃ (pos : Nat) (acc : List Int), Hid (acc ++ (Utf.pcs (a0.data.toList.drop pos)).map (fun p => (p.1 : Int)) = r) ∧ wr.ownsRow w.heap.size 21 1 v acc.length (nums .i32 acc) ∧ wr.heap[w.heap.size + 1]? = some (.stringIter a0 pos) ∧ Below w.heap.size w wr ∧ acc.length ≤ pos ∧ pos ≤ a0.size) (fun v wr => a0.size - wr.iterPos (w.heap.size + 1))
  case atStart =>
    refine ⟨0, [], ?_, ?_, ?_, ((Below.refl _ w).alloc (Nat.le_refl _) _).alloc (by simp) _, by simp, by omega⟩
    · exact HR.out
    · refine ⟨by simp [nums], Or.inr ⟨w.heap.size, 0, #[], rfl, Nat.le_refl _, ?_, by simp, by simp [maxLen], by simp, by simp [nums]⟩⟩
      have := Below.heap_alloc (w.alloc (.cells #[] 21)) (.stringIter a0 0) w.heap.size (by simp)
      refine Eq.trans this ?_
      exact heap_alloc_new w _
    · have := World.iter_heap (w.alloc (.cells #[] 21)) a0 0
      simpa using this
  case round =>
    obtain ⟨pos, acc, HA, hown, hit, hbw, hal, hpl⟩ := hrel
    have hsz : w.heap.size + 1 < wr.heap.size := (Array.getElem?_eq_some_iff.1 hit).1
    by_cases hp : pos < a0.size
    · have hnx : ∀ ty, (Instr.next (.pointer (some ⟨w.heap.size + 1, 0, none⟩)) true ty).run Tryd.prog wr = _ := fun ty => Lib.run_next_any_at wr (w.heap.size + 1) a0 pos ty hit hp
      have hwd := (Utf.at_width a0 pos hp).1
      have hwe := (Utf.at_width a0 pos hp).2
      have hd1 := decode_le a0 pos
      have hit2 := Lib.iterAt_heap wr (w.heap.size + 1) a0 pos (pos + (Utf8.decode a0 pos).2) hit
      have hown2 := own_iterAt hown hit (pos + (Utf8.decode a0 pos).2)
      have hbw2 := Lib.below_iterAt hbw (k := w.heap.size + 1) (by omega) a0 (pos + (Utf8.decode a0 pos).2)
      have hsz2 : w.heap.size + 1 < (wr.iterAt (w.heap.size + 1) a0 (pos + (Utf8.decode a0 pos).2)).heap.size := by rw [Lib.iterAt_size]; omega
      have hne := own_ne_iter hown hit
      have HN : Hid ((acc ++ [((Utf8.decode a0 pos).1 : Int)]) ++ (Utf.pcs (a0.data.toList.drop (pos + (Utf8.decode a0 pos).2))).map (fun p => (p.1 : Int)) = r) := by
        refine Eq.trans ?_ HA.out
        rw [Utf.pcs_at a0 pos hp]
        simp
      go_wp2_with (at_builtin; refine wpList_append_own _ rfl (.tmp 12) (.tmp 14) 32 rfl w.heap.size 21 i0 (.int .i32 0) 1 4 Tryd.underlying32 HI.out HZ0.out HZ1.out HZ2.out rfl (by decide) _ _ _ rfl (hown2.alloc _) ⟨(wr.iterAt (w.heap.size + 1) a0 (pos + (Utf8.decode a0 pos).2)).heap.size, 0, none⟩ 1 1 [.int .i32 ((Utf8.decode a0 pos).1 : Int)] rfl rfl ?c1 ?c2 ?c3 ?c4 ?c5 ?_; (case c1 => exact cell_one_new _ _ _); (case c2 => simp [Value.oneCell']); (case c3 => unfold maxLen; omega); (case c4 => omega); (case c5 => simp; omega); intro v1 w1 hown1 hg1 _)
      go_roundw
      case rel =>
        refine ⟨pos + (Utf8.decode a0 pos).2, acc ++ [((Utf8.decode a0 pos).1 : Int)], HN, ?_, iter_grown (iter_alloc hit2 _) hg1 hne, (hbw2.alloc (by omega) _).grown hg1 (by simp; omega) (fun k hk => own_base hown k hk), by simp; omega, by omega⟩
        simpa [nums] using hown1
      case measure =>
        have h1 := iter_grown (iter_alloc hit2 (.cells #[Value.int .i32 ((Utf8.decode a0 pos).1 : Int)] 21)) hg1 hne
        simp only [World.iterPos, h1, hit]
        omega
    · have hnx : ∀ ty, (Instr.next (.pointer (some ⟨w.heap.size + 1, 0, none⟩)) true ty).run Tryd.prog wr = _ := fun ty => Lib.run_next_end_at wr (w.heap.size + 1) a0 pos ty hit hp
      have HE : Hid (acc = r) := by
        refine Eq.trans ?_ HA.out
        rw [Utf.pcs_end a0 pos hp]
        simp
      go_wp2
      go_ret
      exact ⟨_, rfl, Kd.R_of_own (by rw [← HE.out]; exact hown) (fun _ _ => trivial), hbw⟩

end Go.Proofs.YtfkianfddjccgaaDoor.U
