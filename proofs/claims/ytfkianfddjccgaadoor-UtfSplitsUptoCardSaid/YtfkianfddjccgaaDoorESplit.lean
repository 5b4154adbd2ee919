/- The contract of utf.Split in the printer's form: what stands between the places of a part, or the pieces, in new memory; the text has less than 2^30 bytes. -/
import Derived.Test.YtfkianfddjccgaaDoorEUnquote
import Derived.Test.YtfkianfddjccgaaDoorUtf2
import Derived.Test.YtfkianfddjccgaaDoorShelf
import Derived.Lib.Explode
import Derived.Lib.SplitLaws
import Derived.OwnWalk
import Derived.Deep.OwnRows
import Derived.Deep.LoopGhost
namespace Go.Proofs.YtfkianfddjccgaaDoor.U
open Go.RowKit Go.Proofs.YtfkianfddjccgaaDoorW.PrintWords
set_option linter.unusedSimpArgs false
set_option linter.unusedVariables false

/-- the pieces of a text, as texts -/
def pieceAt (s : ByteArray) (j : Nat) : ByteArray := s.extract (Utf.plc j s.data.toList) (Utf.plc (j + 1) s.data.toList)
def piecesUpTo (s : ByteArray) (d : Nat) : List ByteArray := (List.range d).map (pieceAt s)
def piecesB (s : ByteArray) : List ByteArray := piecesUpTo s (Utf.pcs s.data.toList).length
theorem piecesUpTo_succ (s : ByteArray) (d : Nat) : piecesUpTo s (d + 1) = piecesUpTo s d ++ [pieceAt s d] := by simp [piecesUpTo, List.range_succ]
theorem piecesUpTo_length (s : ByteArray) (d : Nat) : (piecesUpTo s d).length = d := by simp [piecesUpTo]

/-- the cells of a row of n texts of which the first are set -/
def rowOf (l : List ByteArray) (n : Nat) : List Value := l.map Value.string ++ List.replicate (n - l.length) (Value.string ByteArray.empty)
theorem rowOf_next (l : List ByteArray) (n : Nat) (h : l.length < n) : (rowOf l n)[l.length]? = some (.string ByteArray.empty) := by
  unfold rowOf
  rw [List.getElem?_append_right (by simp), List.length_map, Nat.sub_self]
  obtain ⟨m, hm⟩ : ∃ m, n - l.length = m + 1 := ⟨n - l.length - 1, by omega⟩
  rw [hm]
  rfl
theorem rowOf_set (l : List ByteArray) (n : Nat) (h : l.length < n) (x : ByteArray) : (rowOf l n).set l.length (.string x) = rowOf (l ++ [x]) n := by
  unfold rowOf
  rw [List.set_append_right _ _ (by simp)]
  obtain ⟨m, hm⟩ : ∃ m, n - l.length = m + 1 := ⟨n - l.length - 1, by omega⟩
  rw [hm]
  have e : n - (l ++ [x]).length = m := by simp; omega
  rw [e]
  simp [List.replicate_succ]
theorem rowOf_full (l : List ByteArray) : rowOf l l.length = l.map Value.string := by simp [rowOf]
theorem rowOf_nil (n : Nat) : rowOf [] n = List.replicate n (Value.string ByteArray.empty) := by simp [rowOf]

theorem head_extract (s : ByteArray) (p c : Nat) (h : p + c ≤ s.size) : (s.extract p s.size).extract 0 c = s.extract p (p + c) := by
  apply ByteArray.ext
  apply Array.ext'
  rw [Lib.extract_data, Lib.extract_data, Lib.extract_data, List.drop_zero, Nat.sub_zero, List.take_of_length_le (l := s.data.toList.drop p) (by rw [List.length_drop, ← Lib.size_eq]; omega), show p + c - p = c by omega]
theorem tail_extract (s : ByteArray) (p c : Nat) : (s.extract p s.size).extract c (s.extract p s.size).size = s.extract (p + c) s.size := by
  apply ByteArray.ext
  apply Array.ext'
  have hall : ∀ (t : ByteArray) (q : Nat), (t.extract q t.size).data.toList = t.data.toList.drop q := by
    intro t q
    rw [Lib.extract_data, List.take_of_length_le (by rw [List.length_drop, ← Lib.size_eq]; omega)]
  rw [hall, hall, hall, List.drop_drop]

/-- what a call owns stays while a later call leaves what was there as it is -/
theorem own_below {w w' : World} {base : Nat} {e : TypeId} {size : Nat} {v : Value} {n : Nat} {xs : List Value} (h : w.ownsRow base e size v n xs) (hb : Below w.heap.size w w') : w'.ownsRow base e size v n xs := by
  obtain ⟨h1, h2⟩ := h
  refine ⟨h1, ?_⟩
  rcases h2 with h2 | ⟨g, cap, cur, hv, hg, hh, r⟩
  · exact Or.inl h2
  · exact Or.inr ⟨g, cap, cur, hv, hg, by rw [hb.block g (Array.getElem?_eq_some_iff.1 hh).1]; exact hh, r⟩

theorem alloc_at (w : World) (o : Obj) : (w.alloc o).heap[w.heap.size]? = some o := by
  show (w.heap.push o)[w.heap.size]? = some o
  simp

theorem infoStr : (Tryd.prog.info? 9).map (fun i => (i.zero, i.size, i.bytes)) = some (some (.string ByteArray.empty), 1, 16) := by kernel_rfl

set_option maxHeartbeats 8000000 in
set_option maxRecDepth 1000000 in
theorem explode_calls (s : ByteArray) (h0 : 0 < s.size) (hs : s.size ≤ 1073741824) (w : World) (hT : Tabs w) :
    Calls Tryd.prog 94 #[.string s, .int .i64 (-1)] w fun e w' => ∃ A : Nat, e = .returned (.slice (some ⟨A, 0, none⟩) (Utf.pcs s.data.toList).length (Utf.pcs s.data.toList).length) ∧
      w'.ownsRow w.heap.size 9 1 (.slice (some ⟨A, 0, none⟩) (Utf.pcs s.data.toList).length (Utf.pcs s.data.toList).length) (Utf.pcs s.data.toList).length ((piecesB s).map Value.string) ∧ Below w.heap.size w w' := by
  have HT := Lib.hid hT
  clear hT
  have hcnt := Utf.runeCount_eq s
  have hle := Utf.pcs_length s.data.toList
  rw [← Lib.size_eq] at hle
  have hn1 : 1 ≤ (Utf.pcs s.data.toList).length := by
    have hne : s.data.toList ≠ [] := by
      intro e
      rw [Lib.size_eq, e] at h0
      exact absurd h0 (by simp)
    rw [Utf.pcs_step _ hne]
    simp
  obtain ⟨n, hn⟩ : ∃ n, (Utf.pcs s.data.toList).length = n := ⟨_, rfl⟩
  have HP : Hid (piecesB s = piecesUpTo s n) := by
    show piecesB s = _
    unfold piecesB
    rw [hn]
  rw [hn] at hcnt hle hn1 ⊢
  have HN := Lib.hid hn
  have HC := Lib.hid hcnt
  clear hn hcnt
  have hmk := run_make_row' (P := Tryd.prog) 54 9 (.string ByteArray.empty) 16 Tryd.underlying54 infoStr rfl .i64 .i64 n (by omega) (by omega)
  go_enter Tryd.func94, Tryd.ntmps94
  go_wp2_with (go_at_call 46; refine (Tryd.utf8_RuneCountInString s _ (by omega)).mono ?_; rintro e w1 ⟨rfl, hw1⟩; rw [HC.out]; have hb1 : Below w.heap.size w w1 := (by obtain ⟨pos, rfl⟩ := hw1; exact (Below.refl _ w).alloc (Nat.le_refl _) _); clear hw1)
  go_loopg [0, 7] (n - 1) (fun g s0 s7 wx => ∃ (d : Nat) (R : ByteArray), s0 = .string R ∧ s7 = .int .i64 d ∧ d + g = n - 1 ∧ Hid (R = s.extract (Utf.plc d s.data.toList) s.size) ∧ Hid (wx.ownsRow w.heap.size 9 1 (.slice (some ⟨w1.heap.size, 0, none⟩) n n) n (rowOf (piecesUpTo s d) n)) ∧ Below w.heap.size w wx)
  case atStart =>
    refine ⟨0, s, rfl, rfl, by omega, (Lib.whole_piece s).symm, ?_, hb1.alloc hb1.size _⟩
    show World.ownsRow _ _ _ _ _ _ _
    have ho := own_made_of (enc := Value.string) (d := ByteArray.empty) w1 w.heap.size 9 n hb1.size (by omega)
    have e : rowOf (piecesUpTo s 0) n = encs Value.string (List.replicate n ByteArray.empty) := by
      show rowOf [] n = _
      rw [rowOf_nil]
      simp [encs]
    rw [e]
    exact ho
  case round =>
    obtain ⟨d, R, rfl, rfl, hdg, HR, hown, hbw⟩ := hrel
    have hlen := piecesUpTo_length s d
    cases gk with
    | zero =>
      have hdn : d + 1 = n := by omega
      have hidx : (n : Int) - 1 = (d : Int) := by omega
      have hlt : ¬ ((d : Int) < (n : Int) - 1) := by omega
      have hpos : (0 : Int) < (n : Int) := by omega
      have hdz : (d : Int) < (n : Int) := by omega
      have hc : wr.cell? ⟨w1.heap.size, d, none⟩ = some (.string ByteArray.empty) := by
        rw [hown.out.cellAt d (by omega)]
        have := rowOf_next (piecesUpTo s d) n (by omega)
        rw [hlen] at this
        exact this
      have hf : wr.frozen? ⟨w1.heap.size, d, none⟩ = false := hown.out.frozenAt d
      have HS : Hid ((wr.setCell ⟨w1.heap.size, d, none⟩ (.string R)).ownsRow w.heap.size 9 1 (.slice (some ⟨w1.heap.size, 0, none⟩) n n) n ((piecesB s).map Value.string)) := by
        have hs := (hown.out.stored d (.string R)).1
        have hr := rowOf_set (piecesUpTo s d) n (by omega) R
        rw [hlen] at hr
        rw [hr] at hs
        have e : piecesB s = piecesUpTo s d ++ [R] := by
          rw [HP.out, ← hdn, piecesUpTo_succ, HR.out]
          unfold pieceAt
          rw [Utf.plc_end (d + 1) _ (by rw [HN.out]; omega), ← Lib.size_eq]
        have hl : (piecesUpTo s d ++ [R]).length = n := by rw [List.length_append, hlen]; exact hdn
        rw [e]
        rw [← rowOf_full, hl]
        exact hs
      clear hlen hdn
      go_wp2
      go_ret
      exact ⟨w1.heap.size, rfl, HS.out, hbw.setCell (p := ⟨w1.heap.size, d, none⟩) hb1.size _⟩
    | succ g =>
      have hdn : d < n := by omega
      have hlt : ((d : Int) < (n : Int) - 1) := by omega
      have hdz : (d : Int) < (n : Int) := by omega
      have hp : Utf.plc d s.data.toList < s.size := by
        apply Classical.byContradiction
        intro hh
        rw [Lib.size_eq] at hh
        have := Utf.plc_size hh
        rw [HN.out] at this
        omega
      have hstep := Utf.plc_at s d hp
      have hwd := Utf.at_width s _ hp
      have hTr : Tabs wr := HT.out.below hbw
      have hD := dec_calls s (Utf.plc d s.data.toList) hp wr hTr
      clear hTr
      have hRR := HR.out
      rw [← hRR] at hD
      have HB : Hid (R.extract 0 (Utf8.decode s (Utf.plc d s.data.toList)).2 = pieceAt s d ∧ R.extract (Utf8.decode s (Utf.plc d s.data.toList)).2 R.size = s.extract (Utf.plc (d + 1) s.data.toList) s.size) := by
        show _ ∧ _
        unfold pieceAt
        rw [hstep, hRR, head_extract s _ _ hwd.2, tail_extract]
        exact ⟨rfl, rfl⟩
      have hRs : (Utf8.decode s (Utf.plc d s.data.toList)).2 ≤ R.size := by
        rw [hRR, ByteArray.size_extract]
        omega
      have hRl : R.size ≤ 1073741824 := by
        rw [hRR, ByteArray.size_extract]
        omega
      have hw1 := hwd.1
      obtain ⟨nn, hnn⟩ : ∃ x, x = (Utf8.decode s (Utf.plc d s.data.toList)).2 := ⟨_, rfl⟩
      obtain ⟨rr, hrr⟩ : ∃ x, x = (Utf8.decode s (Utf.plc d s.data.toList)).1 := ⟨_, rfl⟩
      rw [← hnn] at hD HB hRs hw1
      rw [← hrr] at hD
      clear hnn hrr hwd hstep hp hRR
      have hdn1 : ¬ (d : Int) = (n : Int) - 1 := by omega
      go_wp2_with (go_at_call 48; (with_reducible refine hD.mono ?_); rintro e0 w2 ⟨rfl, hb2⟩; have hbw2 := hbw.trans (hb2.mono hbw.size); have hown2 := Lib.hid (own_below hown.out hb2); have hc : w2.cell? ⟨w1.heap.size, d, none⟩ = some (.string ByteArray.empty) := (by rw [hown2.out.cellAt d (by omega)]; have := rowOf_next (piecesUpTo s d) n (by omega); rw [hlen] at this; exact this); have hf : w2.frozen? ⟨w1.heap.size, d, none⟩ = false := hown2.out.frozenAt d)
      go_roundg g
      case measure => omega
      case rel =>
        have hdc : ((d : Int) + 1) = ((d + 1 : Nat) : Int) := by omega
        refine ⟨d + 1, R.extract nn R.size, rfl, by rw [hdc], by omega, HB.out.2, ?_, hbw2.setCell (p := ⟨w1.heap.size, d, none⟩) hb1.size _⟩
        have hs := (hown2.out.stored d (.string (R.extract 0 nn))).1
        have hr := rowOf_set (piecesUpTo s d) n (by omega) (R.extract 0 nn)
        rw [hlen] at hr
        rw [hr, HB.out.1, ← piecesUpTo_succ] at hs
        rw [HB.out.1]
        exact hs


set_option maxHeartbeats 2000000 in
set_option maxRecDepth 1000000 in
theorem genSplit_pieces (s sep : ByteArray) (h0 : 0 < s.size) (hs : s.size ≤ 1073741824) (hsep : sep.size = 0) (w : World) (hT : Tabs w) :
    Calls Tryd.prog 85 #[.string s, .string sep, .int .i64 0, .int .i64 (-1)] w fun e w' => ∃ A : Nat, e = .returned (.slice (some ⟨A, 0, none⟩) (Utf.pcs s.data.toList).length (Utf.pcs s.data.toList).length) ∧
      w'.ownsRow w.heap.size 9 1 (.slice (some ⟨A, 0, none⟩) (Utf.pcs s.data.toList).length (Utf.pcs s.data.toList).length) (Utf.pcs s.data.toList).length ((piecesB s).map Value.string) ∧ Below w.heap.size w w' := by
  have c := explode_calls s h0 hs w hT
  clear hT
  have hse : sep.toList.isEmpty = true := by
    have hnil : sep.data.toList = [] := List.length_eq_zero_iff.1 (by rw [← Lib.size_eq]; exact hsep)
    rw [Lib.toList_data, hnil]
    rfl
  go_enter Tryd.func85, Tryd.ntmps85
  go_wp2_with (go_at_call 94; (with_reducible refine c.mono ?_); rintro e w' ⟨A, rfl, hown, hb⟩)
  go_ret
  exact ⟨A, rfl, hown, hb⟩

set_option maxHeartbeats 2000000 in
set_option maxRecDepth 1000000 in
theorem split_pieces (s sep : ByteArray) (h0 : 0 < s.size) (hs : s.size ≤ 1073741824) (hsep : sep.size = 0) (w : World) (hT : Tabs w) :
    Calls Tryd.prog 66 #[.string s, .string sep] w fun e w' => ∃ A : Nat, e = .returned (.slice (some ⟨A, 0, none⟩) (Utf.pcs s.data.toList).length (Utf.pcs s.data.toList).length) ∧
      w'.ownsRow w.heap.size 9 1 (.slice (some ⟨A, 0, none⟩) (Utf.pcs s.data.toList).length (Utf.pcs s.data.toList).length) (Utf.pcs s.data.toList).length ((piecesB s).map Value.string) ∧ Below w.heap.size w w' := by
  have c := genSplit_pieces s sep h0 hs hsep w hT
  clear hT
  go_enter Tryd.func66, Tryd.ntmps66
  go_wp2_with (go_at_call 85; (with_reducible refine c.mono ?_); rintro e w' ⟨A, rfl, hown, hb⟩)
  go_ret
  exact ⟨A, rfl, hown, hb⟩

/-- what utf.Split answers -/
def splitZ (s p : ByteArray) : List ByteArray := if s.size = 0 then [] else if p.size = 0 then piecesB s else Lib.splitB p 0 (Lib.countB s p) s
def utf_Split.f (a0 a1 : ByteArray) : Option (List ByteArray) := if a0.size ≤ 1073741824 then some (splitZ a0 a1) else none

theorem split_calls (s p : ByteArray) (h0 : 0 < s.size) (hs : s.size ≤ 1073741824) (w : World) (hT : Tabs w) :
    Calls Tryd.prog 66 #[.string s, .string p] w fun e w' => ∃ v0_ : Value, e = .returned v0_ ∧ Kd.R Kd.string 9 w' w.heap.size (fun _ => True) v0_ (splitZ s p) ∧ Below w.heap.size w w' := by
  unfold splitZ
  rw [if_neg (by omega)]
  by_cases hp : p.size = 0
  · rw [if_pos hp]
    refine (split_pieces s p h0 hs hp w hT).mono fun e w' h => ?_
    obtain ⟨A, rfl, hown, hb⟩ := h
    refine ⟨_, rfl, Kd.R_of_own ?_ (fun _ _ => trivial), hb⟩
    rw [show (piecesB s).length = (Utf.pcs s.data.toList).length from piecesUpTo_length s _]
    exact hown
  · rw [if_neg hp]
    obtain ⟨m, hm⟩ := hT.maxlen
    have hc := Lib.countB_le p (by omega) s.size s (Nat.le_refl _)
    have hl := Lib.splitB_all p (by omega) 0 (Lib.countB s p) s rfl
    refine (Tryd.strings_Split s p m w (by omega) hm (by omega)).mono fun e w' h => ?_
    obtain ⟨rfl, rfl⟩ := h
    refine ⟨_, rfl, Kd.R_of_own ?_ (fun _ _ => trivial), (Below.refl _ w).alloc (Nat.le_refl _) _⟩
    rw [hl]
    exact ⟨by simp [encs, hl], Or.inr ⟨w.heap.size, Lib.countB s p + 1, ((Lib.splitB p 0 (Lib.countB s p) s).map Value.string).toArray, rfl, Nat.le_refl _, alloc_at _ _, Nat.le_refl _, by unfold maxLen; omega, by simp [hl], by simp [encs, hl, List.take_of_length_le]⟩⟩

set_option maxHeartbeats 2000000 in
set_option maxRecDepth 1000000 in
theorem utf_Split.calls (a0 a1 : ByteArray) (r : List ByteArray) (w : World) (hT : Tabs w) (h : utf_Split.f a0 a1 = some r) :
    Calls Tryd.prog 41 #[.string a0, .string a1] w fun e w' => ∃ v0_ : Value, e = .returned (v0_) ∧ Kd.R Kd.string 9 w' w.heap.size (fun _ => True) v0_ r ∧ Below w.heap.size w w' := by
  unfold utf_Split.f at h
  split at h
  case isFalse => cases h
  rename_i hs
  obtain rfl := Option.some.inj h
  clear h
  by_cases h0 : a0.size = 0
  · have hz : splitZ a0 a1 = [] := by unfold splitZ; rw [if_pos h0]
    have he : a0.toList = [] := by
      rw [Lib.toList_data]
      exact List.length_eq_zero_iff.1 (by rw [← Lib.size_eq]; exact h0)
    have he' : (a0.toList == ([] : List UInt8)) = true := by rw [he]; rfl
    rw [hz]
    clear hT hz he
    go_enter Tryd.func41, Tryd.ntmps41
    go_wp2
    go_ret
    exact ⟨_, rfl, Kd.R_of_own ⟨rfl, Or.inr ⟨w.heap.size, 0, #[], rfl, Nat.le_refl _, alloc_at _ _, Nat.le_refl _, Nat.zero_le _, rfl, rfl⟩⟩ (fun _ _ => trivial), (Below.refl _ w).alloc (Nat.le_refl _) _⟩
  · have c := split_calls a0 a1 (by omega) hs w hT
    have he : a0.toList ≠ [] := by
      rw [Lib.toList_data]
      intro e
      exact h0 (by rw [Lib.size_eq, e]; rfl)
    have he' : (a0.toList == ([] : List UInt8)) = false := beq_eq_false_iff_ne.2 he
    clear hT
    go_enter Tryd.func41, Tryd.ntmps41
    go_wp2_with (go_at_call 66; (with_reducible refine c.mono ?_); rintro e w' ⟨v, rfl, hown, hb⟩)
    go_ret
    exact ⟨_, rfl, hown, hb⟩

end Go.Proofs.YtfkianfddjccgaaDoor.U
