/- The contract of utf.Quote in the printer's form: the literal that says a text's runes; the text has at most 2^44 bytes. -/
import Derived.Test.YtfkianfddjccgaaDoorESaid
import Derived.Test.YtfkianfddjccgaaDoorBuilder
import Derived.Test.YtfkianfddjccgaaDoorIter
import Derived.Test.YtfkianfddjccgaaDoorUtf
namespace Go.Proofs.YtfkianfddjccgaaDoor.U
open Go.RowKit Go.Proofs.YtfkianfddjccgaaDoorW.PrintWords

def utf_Quote.f (a0 : ByteArray) : Option ByteArray := if a0.size ≤ 17592186044416 then some ⟨(34 :: (Utf.runes a0.data.toList).flatMap saidB ++ [34]).toArray⟩ else none

theorem saidB_length (r : Int) : (saidB r).length ≤ 6 := by
  unfold saidB
  repeat' split
  all_goals first | (simp; done) | (have h := (Lib.runeCells_le r).2; rw [Lib.runeCells_length] at h; omega)

theorem strCells_list (l : List UInt8) : Lib.strCells ⟨l.toArray⟩ = Lib.byteCells l := by simp [Lib.strCells, Lib.byteCells]

set_option maxHeartbeats 4000000 in
set_option maxRecDepth 100000 in
theorem utf_Quote.calls (a0 : ByteArray) (r : ByteArray) (w : World) (h : utf_Quote.f a0 = some r) :
    Calls Tryd.prog 22 #[.string a0] w fun e w' => e = .returned (.string r) ∧ Below w.heap.size w w' := by
  unfold utf_Quote.f at h
  split at h
  case isFalse => cases h
  rename_i hs
  have HR : Hid (⟨(34 :: (Utf.runes a0.data.toList).flatMap saidB ++ [34]).toArray⟩ = r) := Option.some.inj h
  clear h
  go_enter Tryd.func22, Tryd.ntmps22
  go_wp2_with fail
  refine (Bld.WriteByte w.heap.size w.heap.size [] 34 _ (Lib.fresh_isBuilder 67 5 w) (by simp) (by simp)).mono ?_
  rintro e w1 ⟨rfl, h1, b1, k1⟩
  have hlt := h1.lt
  have hb1 : Below w.heap.size w w1 := ((Below.refl _ w).alloc (Nat.le_refl _) _).trans b1
  go_wp2
  go_loopw [] (fun wr => ∃ (pos : Nat) (acc : List UInt8), Hid (acc ++ ((Utf.pcs (a0.data.toList.drop pos)).map (fun p => (p.1 : Int))).flatMap saidB = 34 :: (Utf.runes a0.data.toList).flatMap saidB) ∧ Bld.Is w.heap.size w.heap.size (Lib.byteCells acc) wr ∧ wr.heap[w1.heap.size]? = some (.stringIter a0 pos) ∧ Below w.heap.size w wr ∧ acc.length ≤ 6 * pos + 1 ∧ pos ≤ a0.size) (fun wr => a0.size - wr.iterPos w1.heap.size)
  case atStart =>
    refine ⟨0, [34], ?_, ?_, ?_, hb1.alloc hb1.size _, by simp, by omega⟩
    · show _ = _
      simp [Utf.runes]
    · exact Or.inr (Bld.At.alloc h1 (.stringIter a0 0))
    · have := World.iter_heap w1 a0 0
      simpa using this
  case round =>
    obtain ⟨pos, acc, HA, hI, hit, hbw, hal, hpl⟩ := hrel
    have hsz : w1.heap.size < wr.heap.size := (Array.getElem?_eq_some_iff.1 hit).1
    by_cases hp : pos < a0.size
    · have hnx : ∀ ty, (Instr.next (.pointer (some ⟨w1.heap.size, 0, none⟩)) true ty).run Tryd.prog wr = _ := fun ty => Lib.run_next_any_at wr w1.heap.size a0 pos ty hit hp
      have hwd := (Utf.at_width a0 pos hp).1
      have hwe := (Utf.at_width a0 pos hp).2
      have hd1 := decode_le a0 pos
      have hrn := Utf.decode_range a0 pos
      have hit2 := Lib.iterAt_heap wr w1.heap.size a0 pos (pos + (Utf8.decode a0 pos).2) hit
      have hI2 := Bld.Is.iterAt hI hit (pos + (Utf8.decode a0 pos).2)
      have hbw2 := Lib.below_iterAt hbw (k := w1.heap.size) (by omega) a0 (pos + (Utf8.decode a0 pos).2)
      have hs6 := saidB_length ((Utf8.decode a0 pos).1 : Int)
      have HN : Hid ((acc ++ saidB ((Utf8.decode a0 pos).1 : Int)) ++ ((Utf.pcs (a0.data.toList.drop (pos + (Utf8.decode a0 pos).2))).map (fun p => (p.1 : Int))).flatMap saidB = 34 :: (Utf.runes a0.data.toList).flatMap saidB) := by
        refine Eq.trans ?_ HA.out
        rw [Utf.pcs_at a0 pos hp]
        simp
      go_wp2_with (go_at_call 53; refine (said_calls ((Utf8.decode a0 pos).1 : Int) (by omega) (by omega) _).mono ?_)
      rintro e w2 ⟨rfl, b2⟩
      have hI3 := Bld.Is.below hI2 b2
      have hit3 : w2.heap[w1.heap.size]? = some (.stringIter a0 (pos + (Utf8.decode a0 pos).2)) := (b2.block _ (by rw [Lib.iterAt_size]; exact hsz)).trans hit2
      have hbw3 : Below w.heap.size w w2 := hbw2.trans (b2.mono (by rw [Lib.iterAt_size]; exact hbw.size))
      go_wp2_with fail
      refine (Bld.WriteString w.heap.size w.heap.size _ ⟨(saidB ((Utf8.decode a0 pos).1 : Int)).toArray⟩ _ hI3 (by rw [Lib.byteCells_length]; show _ + (saidB _).length ≤ _; omega) hbw3.size).mono ?_
      rintro e w3 ⟨rfl, h4, b4, k4⟩
      have hit4 := k4.iter hit3 (by omega)
      go_wp2
      go_roundw
      case rel =>
        refine ⟨pos + (Utf8.decode a0 pos).2, acc ++ saidB ((Utf8.decode a0 pos).1 : Int), HN, ?_, hit4, hbw3.trans b4, by simp; omega, by omega⟩
        rw [Lib.byteCells_append, ← strCells_list]
        exact Or.inr h4
      case measure =>
        simp only [World.iterPos, hit4, hit]
        omega
    · have hnx : ∀ ty, (Instr.next (.pointer (some ⟨w1.heap.size, 0, none⟩)) true ty).run Tryd.prog wr = _ := fun ty => Lib.run_next_end_at wr w1.heap.size a0 pos ty hit hp
      have HE : Hid (⟨(acc ++ [34]).toArray⟩ = r) := by
        refine Eq.trans ?_ HR.out
        have := HA.out
        rw [Utf.pcs_end a0 pos hp] at this
        simp only [List.map_nil, List.flatMap_nil, List.append_nil] at this
        rw [this]
      go_wp2_with fail
      refine (Bld.WriteByte w.heap.size w.heap.size _ 34 _ hI (by rw [Lib.byteCells_length]; omega) hbw.size).mono ?_
      rintro e w2 ⟨rfl, h2, b2, k2⟩
      have h3 : Bld.Is w.heap.size w.heap.size (Lib.byteCells (acc ++ [34])) w2 := by
        rw [Lib.byteCells_append]
        exact Or.inr h2
      have hbw2 := hbw.trans b2
      go_wp2_with fail
      refine (Bld.String w.heap.size w.heap.size (acc ++ [34]) _ h3 hbw2.size).mono ?_
      rintro e w3 ⟨rfl, b3⟩
      go_wp2
      go_ret
      exact ⟨congrArg (fun z => Ending.returned (.string z)) HE.out, hbw2.trans b3⟩

end Go.Proofs.YtfkianfddjccgaaDoor.U
