/- The contract of utf.Find in the printer's form: the numbers of the pieces at which a part begins, in new memory; the text has less than 2^44 bytes. -/
import Derived.Test.YtfkianfddjccgaaDoorU0
import Derived.Test.YtfkianfddjccgaaDoorUtf
import Derived.Test.YtfkianfddjccgaaDoorIter
import Derived.Test.YtfkianfddjccgaaDoorShelf
import Derived.Shelf.Strings.Prefix
import Derived.Lib.Hide
namespace Go.Proofs.YtfkianfddjccgaaDoor.U
open Go.RowKit Go.Proofs.YtfkianfddjccgaaDoorW.PrintWords

/-- the numbers below one of which something holds -/
def findL (P : Nat → Bool) (n : Nat) : List Int := ((List.range n).filter P).map fun (i : Nat) => (i : Int)
theorem findL_zero (P : Nat → Bool) : findL P 0 = [] := rfl
theorem findL_yes (P : Nat → Bool) (n : Nat) (h : P n = true) : findL P (n + 1) = findL P n ++ [(n : Int)] := by
  unfold findL
  rw [List.range_succ, List.filter_append, List.map_append]
  simp [h]
theorem findL_no (P : Nat → Bool) (n : Nat) (h : P n = false) : findL P (n + 1) = findL P n := by
  unfold findL
  rw [List.range_succ, List.filter_append, List.map_append]
  simp [h]
theorem findL_len (P : Nat → Bool) (n : Nat) : (findL P n).length ≤ n := by
  unfold findL
  rw [List.length_map]
  have := List.length_filter_le P (List.range n)
  rw [List.length_range] at this
  exact this

/-- does a part begin with the piece of a number? -/
def beginsAt (s p : ByteArray) (i : Nat) : Bool := !p.data.toList.isEmpty && Lib.hasPrefix (s.data.toList.drop (Utf.plc i s.data.toList)) p.data.toList
def findZ (s p : ByteArray) : List Int := findL (beginsAt s p) (Utf.pcs s.data.toList).length

def utf_Find.f (a0 a1 : ByteArray) : Option (List Int) := if a0.size ≤ 17592186044415 then some (findZ a0 a1) else none

theorem extract_rest (s : ByteArray) (p : Nat) : (s.extract p s.size).data.toList = s.data.toList.drop p := by
  rw [Lib.extract_data, List.take_of_length_le (by rw [List.length_drop, ← Lib.size_eq]; omega)]

set_option maxHeartbeats 4000000 in
set_option maxRecDepth 100000 in
theorem find_body (a0 a1 : ByteArray) (hs : a0.size ≤ 17592186044415) (w : World) (E : Bool) (hE : a1.data.toList.isEmpty = E) :
    Calls Tryd.prog 36 #[.string a0, .string a1] w fun e w' => ∃ v0_ : Value, e = .returned (v0_) ∧ Kd.R (Kd.int .i64) 3 w' w.heap.size (fun _ => True) v0_ (findZ a0 a1) ∧ Below w.heap.size w w' := by
  obtain ⟨i0, hi, hz0, hz1, hz2⟩ := info_parts info3
  have HI := Lib.hid hi
  have HZ0 := Lib.hid hz0
  have HZ1 := Lib.hid hz1
  have HZ2 := Lib.hid hz2
  clear hi hz0 hz1 hz2
  have HEQ : Hid (a1.data.toList.isEmpty = E) := hE
  have hl : a1.toList.isEmpty = E := by rw [ByteArray.toList_eq]; exact hE
  clear hE
  have hb0 : (a1.toList != ([] : List UInt8)) = !E := by
    rw [← hl]
    cases a1.toList <;> rfl
  go_enter Tryd.func36, Tryd.ntmps36
  go_wp2
  go_loopw [5, 6] (fun v i wr => ∃ n : Nat, i = .int .i64 n ∧ Hid (n ≤ Utf.plc n a0.data.toList) ∧ n ≤ a0.size ∧ wr.ownsRow w.heap.size 3 1 v (findL (beginsAt a0 a1) n).length (nums .i64 (findL (beginsAt a0 a1) n)) ∧ wr.heap[w.heap.size + 1]? = some (.stringIter a0 (Utf.plc n a0.data.toList)) ∧ Below w.heap.size w wr) (fun v i wr => a0.size - wr.iterPos (w.heap.size + 1))
  case atStart =>
    refine ⟨0, rfl, Nat.zero_le _, Nat.zero_le _, ?_, ?_, ((Below.refl _ w).alloc (Nat.le_refl _) _).alloc (by simp) _⟩
    · rw [findL_zero]
      refine ⟨by simp [nums], Or.inr ⟨w.heap.size, 0, #[], rfl, Nat.le_refl _, ?_, by simp, by simp [maxLen], by simp, by simp [nums]⟩⟩
      have := Below.heap_alloc (w.alloc (.cells #[] 3)) (.stringIter a0 0) w.heap.size (by simp)
      refine Eq.trans this ?_
      exact heap_alloc_new w _
    · have := World.iter_heap (w.alloc (.cells #[] 3)) a0 0
      have p0 : Utf.plc 0 a0.data.toList = 0 := rfl
      rw [p0]
      simpa using this
  case round =>
    obtain ⟨n, rfl, HN, hns, hown, hit, hbw⟩ := hrel
    have hsz : w.heap.size + 1 < wr.heap.size := (Array.getElem?_eq_some_iff.1 hit).1
    obtain ⟨pos, hpos⟩ : ∃ pos, pos = Utf.plc n a0.data.toList := ⟨_, rfl⟩
    rw [← hpos] at hit
    have HNP : n ≤ pos := by rw [hpos]; exact HN.out
    have HPL : pos ≤ a0.size := by
      have := Utf.plc_le n a0.data.toList
      rw [← Lib.size_eq] at this
      omega
    have hll := findL_len (beginsAt a0 a1) n
    by_cases hp : pos < a0.size
    · have hnx : ∀ ty, (Instr.next (.pointer (some ⟨w.heap.size + 1, 0, none⟩)) true ty).run Tryd.prog wr = _ := fun ty => Lib.run_next_any_at wr (w.heap.size + 1) a0 pos ty hit hp
      have hwd := (Utf.at_width a0 pos hp).1
      have hwe := (Utf.at_width a0 pos hp).2
      have hit2 := Lib.iterAt_heap wr (w.heap.size + 1) a0 pos (pos + (Utf8.decode a0 pos).2) hit
      have hown2 := own_iterAt hown hit (pos + (Utf8.decode a0 pos).2)
      have hbw2 := Lib.below_iterAt hbw (k := w.heap.size + 1) (by omega) a0 (pos + (Utf8.decode a0 pos).2)
      have hsz2 : w.heap.size + 1 < (wr.iterAt (w.heap.size + 1) a0 (pos + (Utf8.decode a0 pos).2)).heap.size := by rw [Lib.iterAt_size]; omega
      have hne := own_ne_iter hown hit
      have HQ : Hid (Utf.plc (n + 1) a0.data.toList = pos + (Utf8.decode a0 pos).2) := by
        rw [hpos] at hp ⊢
        exact Utf.plc_at a0 n hp
      have HP : Hid (pos = Utf.plc n a0.data.toList) := hpos
      clear hpos
      have hN1 : n + 1 ≤ Utf.plc (n + 1) a0.data.toList := by rw [HQ.out]; omega
      have HN1 : Hid (n + 1 ≤ Utf.plc (n + 1) a0.data.toList) := hN1
      clear hN1
      obtain ⟨acc, hacc⟩ : ∃ acc, acc = findL (beginsAt a0 a1) n := ⟨_, rfl⟩
      rw [← hacc] at hown2 hll hown
      by_cases hB : beginsAt a0 a1 n = true
      · have HF : Hid (findL (beginsAt a0 a1) (n + 1) = acc ++ [(n : Int)]) := (findL_yes _ _ hB).trans (by rw [hacc])
        have hB2 := hB
        unfold beginsAt at hB2
        rw [← HP.out, Bool.and_eq_true] at hB2
        have hE0 : E = false := by
          have := hB2.1
          rw [HEQ.out] at this
          simpa using this
        have hpre : Lib.hasPrefix (a0.extract pos a0.size).data.toList a1.data.toList = true := by rw [extract_rest]; exact hB2.2
        subst hE0
        have HACC : Hid (acc = findL (beginsAt a0 a1) n) := hacc
        clear hacc hB hB2
        go_wp2_with (first | (go_at_call 63; refine (Tryd.strings_HasPrefix (a0.extract pos a0.size) a1 _).mono ?_; rintro e w1 ⟨rfl, rfl⟩; rw [hpre]) | (at_builtin; refine wpList_append_own _ rfl (.tmp 23) (.tmp 25) 36 rfl w.heap.size 3 i0 (.int .i64 0) 1 8 Tryd.underlying36 HI.out HZ0.out HZ1.out HZ2.out rfl (by decide) _ _ _ rfl (hown2.alloc _) ⟨(wr.iterAt (w.heap.size + 1) a0 (pos + (Utf8.decode a0 pos).2)).heap.size, 0, none⟩ 1 1 [.int .i64 (n : Int)] rfl rfl ?c1 ?c2 ?c3 ?c4 ?c5 ?_; (case c1 => exact cell_one_new _ _ _); (case c2 => simp [Value.oneCell']); (case c3 => unfold maxLen; omega); (case c4 => omega); (case c5 => simp; omega); intro v1 w1 hown1 hg1 _))
        go_roundw
        case rel =>
          refine ⟨n + 1, by go_num, HN1, by omega, ?_, ?_, (hbw2.alloc (by omega) _).grown hg1 (by simp; omega) (fun k hk => own_base hown k hk)⟩
          · rw [HF.out]
            simpa [nums] using hown1
          · rw [HQ.out]
            exact iter_grown (iter_alloc hit2 _) hg1 hne
        case measure =>
          have h1 := iter_grown (iter_alloc hit2 (.cells #[Value.int .i64 (n : Int)] 3)) hg1 hne
          simp only [World.iterPos, h1, hit]
          omega
      · have hB := Bool.not_eq_true _ ▸ hB
        have HF : Hid (findL (beginsAt a0 a1) (n + 1) = acc) := (findL_no _ _ hB).trans hacc.symm
        have hB2 := hB
        unfold beginsAt at hB2
        rw [← HP.out, HEQ.out] at hB2
        have HACC : Hid (acc = findL (beginsAt a0 a1) n) := hacc
        clear hacc hB
        cases E with
        | true =>
          clear hB2
          go_wp2
          go_roundw
          case rel =>
            refine ⟨n + 1, by go_num, HN1, by omega, ?_, ?_, hbw2⟩
            · rw [HF.out]
              exact hown2
            · rw [HQ.out]
              exact hit2
          case measure =>
            simp only [World.iterPos, hit2, hit]
            omega
        | false =>
          have hpre : Lib.hasPrefix (a0.extract pos a0.size).data.toList a1.data.toList = false := by
            rw [extract_rest]
            simpa using hB2
          clear hB2
          go_wp2_with (go_at_call 63; refine (Tryd.strings_HasPrefix (a0.extract pos a0.size) a1 _).mono ?_; rintro e w1 ⟨rfl, rfl⟩; rw [hpre])
          go_roundw
          case rel =>
            refine ⟨n + 1, by go_num, HN1, by omega, ?_, ?_, hbw2⟩
            · rw [HF.out]
              exact hown2
            · rw [HQ.out]
              exact hit2
          case measure =>
            simp only [World.iterPos, hit2, hit]
            omega
    · have hnx : ∀ ty, (Instr.next (.pointer (some ⟨w.heap.size + 1, 0, none⟩)) true ty).run Tryd.prog wr = _ := fun ty => Lib.run_next_end_at wr (w.heap.size + 1) a0 pos ty hit hp
      have hcount : (Utf.pcs a0.data.toList).length ≤ n := Utf.plc_size (by rw [← hpos, ← Lib.size_eq]; exact hp)
      have HE : Hid (findZ a0 a1 = findL (beginsAt a0 a1) n) := by
        show findZ a0 a1 = _
        unfold findZ
        obtain ⟨d, hd⟩ : ∃ d, n = (Utf.pcs a0.data.toList).length + d := ⟨n - (Utf.pcs a0.data.toList).length, by omega⟩
        rw [hd]
        clear hd
        induction d with
        | zero => rfl
        | succ d ih =>
          rw [show (Utf.pcs a0.data.toList).length + (d + 1) = (Utf.pcs a0.data.toList).length + d + 1 by omega, findL_no _ _ ?_]
          · exact ih
          · have he : Utf.plc ((Utf.pcs a0.data.toList).length + d) a0.data.toList = a0.data.toList.length := Utf.plc_end _ _ (by omega)
            unfold beginsAt
            rw [he, List.drop_length]
            unfold Lib.hasPrefix
            cases a1.data.toList <;> rfl
      clear hcount hl hb0 HEQ
      go_wp2
      go_ret
      exact ⟨_, rfl, Kd.R_of_own (by rw [HE.out]; exact hown) (fun _ _ => trivial), hbw⟩

theorem utf_Find.calls (a0 a1 : ByteArray) (r : List Int) (w : World) (h : utf_Find.f a0 a1 = some r) :
    Calls Tryd.prog 36 #[.string a0, .string a1] w fun e w' => ∃ v0_ : Value, e = .returned (v0_) ∧ Kd.R (Kd.int .i64) 3 w' w.heap.size (fun _ => True) v0_ r ∧ Below w.heap.size w w' := by
  unfold utf_Find.f at h
  split at h
  case isFalse => cases h
  rename_i hs
  obtain rfl := Option.some.inj h
  exact find_body a0 a1 hs w _ rfl

end Go.Proofs.YtfkianfddjccgaaDoor.U
