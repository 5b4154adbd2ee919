/- The contract of utf.mapped in the printer's form: the bytes from one to another with bit 32 turned. -/
import Derived.Test.YtfkianfddjccgaaDoorU0
import Derived.Lib.ConvBytes
namespace Go.Proofs.YtfkianfddjccgaaDoor.U
open Go.RowKit Go.Proofs.YtfkianfddjccgaaDoorW.PrintWords

def flipZ (c a b : Int) : Int := if a ≤ c ∧ c ≤ b then Go.bits .xor .u8 c 32 else c

theorem getD_bt (s : ByteArray) (j : Nat) (hj : j < s.size) : ((s.data.toList.getD j 0).toNat : Int) = bt s (j : Int) := by
  unfold bt
  rw [dif_pos (show (j : Int).toNat < s.size from hj)]
  have h2 : j < s.data.toList.length := by rw [Array.length_toList]; exact hj
  have : s.data.toList.getD j 0 = s[j]'hj := by
    rw [List.getD_eq_getElem?_getD, List.getElem?_eq_getElem h2]
    rfl
  rw [this]
  rfl

set_option maxHeartbeats 4000000 in
set_option maxRecDepth 100000 in
theorem mapped_calls (s : ByteArray) (a b : Int) (hs : s.size ≤ 140737488351232) (w : World) :
    Calls Tryd.prog 57 #[.string s, .int .u8 a, .int .u8 b] w fun e w' => e = .returned (.string (strOfNums ((bytesOf s).map fun c => flipZ c a b))) ∧ Below w.heap.size w w' := by
  have hcv := fun W : World => Lib.run_convert_string_bytes (P := Tryd.prog) W 9 65 5 s Tryd.underlying9 Tryd.underlying65 Tryd.underlying5
  go_enter Tryd.func57, Tryd.ntmps57
  go_wp2
  obtain ⟨W1, hW1⟩ : ∃ W1, W1 = Lib.bytesWorld w 5 s := ⟨_, rfl⟩
  rw [← hW1]
  have hb1 : Below w.heap.size w W1 := by
    rw [hW1]
    exact ⟨rfl, rfl, rfl, by rw [Lib.bytesWorld_size]; omega, fun k hk => Lib.bytesWorld_at_old w _ s k hk⟩
  have hc1 : ∀ j : Nat, j < s.size → W1.cell? ⟨w.heap.size, j, none⟩ = some (.int .u8 (bt s j)) := by
    intro j hj
    rw [hW1, Lib.bytesWorld_cell w _ s j hj]
    rw [getD_bt s j hj]
  have hf1 : ∀ j : Nat, j < s.size → W1.frozen? ⟨w.heap.size, j, none⟩ = false := by
    intro j hj
    rw [hW1]
    have h := Lib.bytesWorld_at_new w 5 s
    have hsz : s.size ≤ (Lib.bytesCells w 5 s).size := by
      simp only [Lib.bytesCells, Array.size_append, Array.size_map]
      show s.data.size ≤ _
      omega
    simp [World.frozen?, h]
    omega
  clear hW1 hcv
  go_loopw [14] (fun v wr => ∃ i : Nat, v = .int .i64 i ∧ i ≤ s.size ∧ (∀ j : Nat, j < s.size → wr.cell? ⟨w.heap.size, j, none⟩ = some (.int .u8 (if j < i then flipZ (bt s j) a b else bt s j))) ∧ (∀ j : Nat, j < s.size → wr.frozen? ⟨w.heap.size, j, none⟩ = false) ∧ Below w.heap.size w wr) (fun v _ => s.size - (intOf v).toNat)
  case atStart => exact ⟨0, rfl, Nat.zero_le _, by simpa using hc1, hf1, hb1⟩
  case round =>
    clear hc1 hf1 hb1
    obtain ⟨i, rfl, hi, hc, hf, hbw⟩ := hrel
    have HC := Aside0.mk hc
    have HF := Aside0.mk hf
    clear hc hf
    by_cases hlt : i < s.size
    · have ci : wr.cell? ⟨w.heap.size, i, none⟩ = some (.int .u8 (bt s i)) := by
        have := HC.out i hlt
        rwa [if_neg (Nat.lt_irrefl i)] at this
      have fi := HF.out i hlt
      have keep : ∀ (v : Int), flipZ (bt s i) a b = v → ∀ (wn : World), wn = wr.setCell ⟨w.heap.size, i, none⟩ (.int .u8 v) → ∀ j : Nat, j < s.size → wn.cell? ⟨w.heap.size, j, none⟩ = some (.int .u8 (if j < i + 1 then flipZ (bt s j) a b else bt s j)) := by
        rintro v hv wn rfl j hj
        by_cases e : j = i
        · subst e
          rw [if_pos (by omega), hv]
          exact World.cell?_setCell_same' _ _ _ (by rw [ci]; rfl)
        · refine Eq.trans (World.cell?_setCell_other wr _ _ _ (fun h => e (by injection h with _ h2 _; exact h2.symm))) ?_
          rw [HC.out j hj]
          by_cases h : j < i
          · rw [if_pos h, if_pos (by omega)]
          · rw [if_neg h, if_neg (by omega)]
      have KEEP := Aside0.mk keep
      have stay : flipZ (bt s i) a b = bt s i → ∀ j : Nat, j < s.size → wr.cell? ⟨w.heap.size, j, none⟩ = some (.int .u8 (if j < i + 1 then flipZ (bt s j) a b else bt s j)) := by
        intro hv j hj
        rw [HC.out j hj]
        by_cases e : j = i
        · subst e
          rw [if_neg (Nat.lt_irrefl j), if_pos (by omega), hv]
        · by_cases h : j < i
          · rw [if_pos h, if_pos (by omega)]
          · rw [if_neg h, if_neg (by omega)]
      have KEEP := Aside0.mk keep
      have STAY := Aside0.mk stay
      clear keep stay
      have hfl : flipZ (bt s i) a b = if a ≤ bt s i ∧ bt s i ≤ b then Go.bits .xor .u8 (bt s i) 32 else bt s i := rfl
      have HFL := Aside0.mk hfl
      clear hfl
      by_cases c1 : a ≤ bt s i
      · by_cases c2 : bt s i ≤ b
        · have hv : flipZ (bt s i) a b = Go.bits .xor .u8 (bt s i) 32 := by rw [HFL.out, if_pos ⟨c1, c2⟩]
          have HV := Aside0.mk hv
          clear hv
          go_wp2
          refine ⟨⟨i + 1, by go_num, by omega, KEEP.out _ HV.out _ rfl, fun j hj => by rw [World.frozen?_setCell]; exact HF.out j hj, hbw.setCell (p := ⟨w.heap.size, i, none⟩) (Nat.le_refl _) _⟩, by simp [intOf]; omega⟩
        · have hv : flipZ (bt s i) a b = bt s i := by rw [HFL.out, if_neg (by omega)]
          have HV := Aside0.mk hv
          clear hv
          go_wp2
          exact ⟨⟨i + 1, by go_num, by omega, STAY.out HV.out, HF.out, hbw⟩, by simp [intOf]; omega⟩
      · have hv : flipZ (bt s i) a b = bt s i := by rw [HFL.out, if_neg (by omega)]
        have HV := Aside0.mk hv
        clear hv
        go_wp2
        exact ⟨⟨i + 1, by go_num, by omega, STAY.out HV.out, HF.out, hbw⟩, by simp [intOf]; omega⟩
    · have hcv2 := run_convert_bytes_arg (P := Tryd.prog) wr 65 5 Tryd.underlying65 Tryd.underlying5 w.heap.size 0 s.size (grownCap w s.size 0 5) ((bytesOf s).map fun c => flipZ c a b) (by rw [List.length_map, bytesOf_length]) (fun j hj => by
        rw [Nat.zero_add, HC.out j hj, if_pos (by omega)]
        have hl : j < (bytesOf s).length := by rw [bytesOf_length]; exact hj
        have h2 : j < s.data.toList.length := by rw [Array.length_toList]; exact hj
        rw [List.getD_eq_getElem?_getD, List.getElem?_map, List.getElem?_eq_getElem hl]
        have : (bytesOf s)[j] = bt s j := by
          rw [← getD_bt s j hj]
          simp [bytesOf, List.getD_eq_getElem?_getD, List.getElem?_eq_getElem h2]
        rw [this]
        rfl) 9 Tryd.underlying9
      go_wp2
      go_ret
      exact ⟨rfl, hbw⟩

def utf_mapped.f (a0 : ByteArray) (a1 a2 : Int) : Option ByteArray := if a0.size ≤ 140737488351232 then some (strOfNums ((bytesOf a0).map fun c => flipZ c a1 a2)) else none

theorem utf_mapped.calls (a0 : ByteArray) (a1 : Int) (a2 : Int) (r : ByteArray) (w : World) (h : utf_mapped.f a0 a1 a2 = some r) :
    Calls Tryd.prog 57 #[.string a0, .int .u8 a1, .int .u8 a2] w fun e w' => e = .returned (.string r) ∧ Below w.heap.size w w' := by
  unfold utf_mapped.f at h
  split at h
  case isFalse => cases h
  rename_i hs
  obtain rfl := Option.some.inj h
  exact mapped_calls a0 a1 a2 hs w

end Go.Proofs.YtfkianfddjccgaaDoor.U
