/- The contract of utf.said: a rune as it stands in a literal. -/
import Derived.Test.YtfkianfddjccgaaDoorUL0x0
import Derived.Lib.RuneBytes
import Derived.WalkLawsBesides
namespace Go.Proofs.YtfkianfddjccgaaDoor.U
open Go.RowKit Go.Proofs.YtfkianfddjccgaaDoorW.PrintWords

theorem encode_eq (r : Int) : Utf8.encode r = ⟨(Lib.encodeRune r).toArray⟩ := by
  unfold Utf8.encode Utf8.valid Lib.encodeRune
  by_cases hv : (0 ≤ r ∧ r < 55296) ∨ (57343 < r ∧ r ≤ 1114111)
  · have hv' : (decide (0 ≤ r) && decide (r < 0xD800) || decide (0xE000 ≤ r) && decide (r ≤ 0x10FFFF)) = true := by
      simp only [Bool.or_eq_true, Bool.and_eq_true, decide_eq_true_eq]
      omega
    obtain ⟨n, rfl⟩ : ∃ n : Nat, r = n := ⟨r.toNat, by omega⟩
    simp only [hv', if_true, Int.toNat_natCast]
    by_cases c1 : n < 128
    · rw [if_pos c1, Lib.encodeRuneZ_one (by omega) (by omega)]; rfl
    · rw [if_neg c1]
      by_cases c2 : n < 2048
      · rw [if_pos c2, Lib.encodeRuneZ_two (by omega) (by omega)]
        have e1 : (192 + (n : Int) / 64).toNat = 192 + n / 64 := by omega
        have e2 : (128 + (n : Int) % 64).toNat = 128 + n % 64 := by omega
        simp only [List.map_cons, List.map_nil, e1, e2]
      · rw [if_neg c2]
        by_cases c3 : n < 65536
        · rw [if_pos c3, Lib.encodeRuneZ_three (by omega)]
          have e1 : (224 + (n : Int) / 4096).toNat = 224 + n / 4096 := by omega
          have e2 : (128 + (n : Int) / 64 % 64).toNat = 128 + n / 64 % 64 := by omega
          have e3 : (128 + (n : Int) % 64).toNat = 128 + n % 64 := by omega
          simp only [List.map_cons, List.map_nil, e1, e2, e3]
        · rw [if_neg c3, Lib.encodeRuneZ_four (by omega) (by omega)]
          have e1 : (240 + (n : Int) / 262144).toNat = 240 + n / 262144 := by omega
          have e2 : (128 + (n : Int) / 4096 % 64).toNat = 128 + n / 4096 % 64 := by omega
          have e3 : (128 + (n : Int) / 64 % 64).toNat = 128 + n / 64 % 64 := by omega
          have e4 : (128 + (n : Int) % 64).toNat = 128 + n % 64 := by omega
          simp only [List.map_cons, List.map_nil, e1, e2, e3, e4]
  · have hv' : (decide (0 ≤ r) && decide (r < 0xD800) || decide (0xE000 ≤ r) && decide (r ≤ 0x10FFFF)) = false := by
      rw [← Bool.not_eq_true]
      simp only [Bool.or_eq_true, Bool.and_eq_true, decide_eq_true_eq]
      omega
    simp only [hv', Bool.false_eq_true, if_false]
    rw [if_neg (by decide), if_neg (by decide), if_pos (by decide), Lib.encodeRuneZ_bad (by omega)]
    rfl

theorem runesBytes_one (r : Int) : runesBytes [r] = ⟨(Lib.encodeRune r).toArray⟩ := by
  rw [← encode_eq]
  unfold runesBytes
  simp

set_option maxHeartbeats 4000000 in
set_option maxRecDepth 100000 in
theorem said_plain (r : Int) (h0 : 32 ≤ r) (_ : r ≤ 1114111) (h2 : r ≠ 34) (h3 : r ≠ 92) (h4 : r ≠ 127) (w : World) :
    Calls Tryd.prog 53 #[.int .i32 r] w fun e w' => e = .returned (.string ⟨(Lib.encodeRune r).toArray⟩) ∧ Below w.heap.size w w' := by
  have c1 : (r == 34) = false := beq_eq_false_iff_ne.2 h2
  have c2 : (r == 92) = false := beq_eq_false_iff_ne.2 h3
  have c3 : (r == 8) = false := beq_eq_false_iff_ne.2 (by omega)
  have c4 : (r == 12) = false := beq_eq_false_iff_ne.2 (by omega)
  have c5 : (r == 10) = false := beq_eq_false_iff_ne.2 (by omega)
  have c6 : (r == 13) = false := beq_eq_false_iff_ne.2 (by omega)
  have c7 : (r == 9) = false := beq_eq_false_iff_ne.2 (by omega)
  have c8 : (r == 127) = false := beq_eq_false_iff_ne.2 h4
  have c9 : ¬ r < 32 := by omega
  have hcv : (convert 32 9 (.slice (some ⟨w.heap.size, 0, none⟩) 1 1)).run Tryd.prog (w.alloc (.cells #[.int .i32 r] 21)) = .ok (.string ⟨(Lib.encodeRune r).toArray⟩) (w.alloc (.cells #[.int .i32 r] 21)) := by
    rw [run_convert_runes (w.alloc (.cells #[.int .i32 r] 21)) 32 9 21 ⟨w.heap.size, 0, none⟩ 1 1 [r] (Nat.le_refl _) Tryd.underlying32 Tryd.underlying21 Tryd.underlying9 (fun j hj => by
      obtain rfl : j = 0 := by simpa using hj
      exact cell_one_new w (.int .i32 r) 21 0 _ rfl)]
    simp [runesBytes_one]
  clear h2 h3 h4
  go_enter Tryd.func53, Tryd.ntmps53
  go_wp2
  go_ret
  exact ⟨rfl, (Below.refl _ w).alloc (Nat.le_refl _) _⟩

/-- a rune as it stands in a literal -/
def saidB (r : Int) : List UInt8 :=
  if r = 34 then [92, 34] else if r = 92 then [92, 92] else if r = 8 then [92, 98] else if r = 12 then [92, 102] else if r = 10 then [92, 110] else if r = 13 then [92, 114] else if r = 9 then [92, 116]
  else if r < 32 ∨ r = 127 then [92, 117, 48, 48, if r = 127 then 55 else if r < 16 then 48 else 49, if r % 16 < 10 then (48 + (r % 16).toNat).toUInt8 else (87 + (r % 16).toNat).toUInt8]
  else Lib.encodeRune r

set_option maxRecDepth 100000 in
theorem unit_small : ∀ n : Fin 128, (n.val < 32 ∨ n.val = 127) → utf_unit.f (n.val : Int) = some ⟨([92, 117, 48, 48, if (n.val : Int) = 127 then 55 else if (n.val : Int) < 16 then 48 else 49, if (n.val : Int) % 16 < 10 then (48 + ((n.val : Int) % 16).toNat).toUInt8 else (87 + ((n.val : Int) % 16).toNat).toUInt8] : List UInt8).toArray⟩ := by decide +kernel

set_option maxHeartbeats 4000000 in
set_option maxRecDepth 100000 in
theorem said_unit (r : Int) (h0 : 0 ≤ r) (h1 : r < 32 ∨ r = 127) (h3 : r ≠ 8) (h4 : r ≠ 12) (h5 : r ≠ 10) (h6 : r ≠ 13) (h7 : r ≠ 9) (w : World) :
    Calls Tryd.prog 53 #[.int .i32 r] w fun e w' => e = .returned (.string ⟨(saidB r).toArray⟩) ∧ Below w.heap.size w w' := by
  have hu : utf_unit.f r = some ⟨(saidB r).toArray⟩ := by
    obtain ⟨n, rfl⟩ : ∃ n : Nat, r = n := ⟨r.toNat, by omega⟩
    have hu : utf_unit.f (n : Int) = _ := unit_small ⟨n, by omega⟩ (by show n < 32 ∨ n = 127; omega)
    have hs : saidB (n : Int) = [92, 117, 48, 48, if (n : Int) = 127 then 55 else if (n : Int) < 16 then 48 else 49, if (n : Int) % 16 < 10 then (48 + ((n : Int) % 16).toNat).toUInt8 else (87 + ((n : Int) % 16).toNat).toUInt8] := by
      unfold saidB
      rw [if_neg (show ¬ (n : Int) = 34 by omega), if_neg (show ¬ (n : Int) = 92 by omega), if_neg h3, if_neg h4, if_neg h5, if_neg h6, if_neg h7, if_pos h1]
    rw [hu, hs]
  have HU := Aside0.mk hu
  clear hu
  have c1 : (r == 34) = false := beq_eq_false_iff_ne.2 (by omega)
  have c2 : (r == 92) = false := beq_eq_false_iff_ne.2 (by omega)
  have c3 : (r == 8) = false := beq_eq_false_iff_ne.2 h3
  have c4 : (r == 12) = false := beq_eq_false_iff_ne.2 h4
  have c5 : (r == 10) = false := beq_eq_false_iff_ne.2 h5
  have c6 : (r == 13) = false := beq_eq_false_iff_ne.2 h6
  have c7 : (r == 9) = false := beq_eq_false_iff_ne.2 h7
  by_cases h127 : r = 127
  · have c8 : (r == 127) = true := beq_iff_eq.2 h127
    clear h1 h3 h4 h5 h6 h7 h127
    go_enter Tryd.func53, Tryd.ntmps53
    go_wp2_with (go_at_call 58; refine (utf_unit.calls r _ _ HU.out).mono ?_)
    rintro e w1 ⟨rfl, hb⟩
    go_wp2
    go_ret
    exact ⟨rfl, hb⟩
  · have c8 : (r == 127) = false := beq_eq_false_iff_ne.2 h127
    have c9 : r < 32 := by omega
    clear h1 h3 h4 h5 h6 h7 h127
    go_enter Tryd.func53, Tryd.ntmps53
    go_wp2_with (go_at_call 58; refine (utf_unit.calls r _ _ HU.out).mono ?_)
    rintro e w1 ⟨rfl, hb⟩
    go_wp2
    go_ret
    exact ⟨rfl, hb⟩

set_option maxHeartbeats 4000000 in
set_option maxRecDepth 100000 in
theorem said_short (r : Int) (h : r = 34 ∨ r = 92 ∨ r = 8 ∨ r = 12 ∨ r = 10 ∨ r = 13 ∨ r = 9) (w : World) :
    Calls Tryd.prog 53 #[.int .i32 r] w fun e w' => e = .returned (.string ⟨(saidB r).toArray⟩) ∧ Below w.heap.size w w' := by
  rcases h with rfl | rfl | rfl | rfl | rfl | rfl | rfl
  all_goals
    go_enter Tryd.func53, Tryd.ntmps53
    go_wp2
    go_ret
    exact ⟨rfl, Below.refl _ _⟩

theorem said_calls (r : Int) (h0 : 0 ≤ r) (h1 : r ≤ 1114111) (w : World) :
    Calls Tryd.prog 53 #[.int .i32 r] w fun e w' => e = .returned (.string ⟨(saidB r).toArray⟩) ∧ Below w.heap.size w w' := by
  by_cases hs : r = 34 ∨ r = 92 ∨ r = 8 ∨ r = 12 ∨ r = 10 ∨ r = 13 ∨ r = 9
  · exact said_short r hs w
  · by_cases hu : r < 32 ∨ r = 127
    · exact said_unit r h0 hu (by omega) (by omega) (by omega) (by omega) (by omega) w
    · have e : saidB r = Lib.encodeRune r := by
        unfold saidB
        rw [if_neg (show ¬ r = 34 by omega), if_neg (show ¬ r = 92 by omega), if_neg (show ¬ r = 8 by omega), if_neg (show ¬ r = 12 by omega), if_neg (show ¬ r = 10 by omega), if_neg (show ¬ r = 13 by omega), if_neg (show ¬ r = 9 by omega), if_neg hu]
      rw [e]
      exact said_plain r (by omega) h1 (by omega) (by omega) (by omega) w

end Go.Proofs.YtfkianfddjccgaaDoor.U
