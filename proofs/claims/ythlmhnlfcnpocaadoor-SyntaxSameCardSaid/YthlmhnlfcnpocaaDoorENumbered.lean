/- The contract of utf.numbered in the printer's form: the number of an escape by number that a text begins with; -1: it begins with none. -/
import Derived.Test.YthlmhnlfcnpocaaDoorUL0x0
import Derived.Test.YthlmhnlfcnpocaaDoorBytes
import Derived.Outline
import Derived.WalkLawsBesides
namespace Go.Proofs.YthlmhnlfcnpocaaDoor.U
open Go.RowKit Go.Proofs.YthlmhnlfcnpocaaDoorW.PrintWords

/-- the value of a digit to the base 16; -1: none -/
def digitZ (c : Int) : Int := if 48 ≤ c ∧ c ≤ 57 then c - 48 else if 97 ≤ c ∧ c ≤ 102 then c - 87 else if 65 ≤ c ∧ c ≤ 70 then c - 55 else -1

theorem digit_eq (c : Int) (h0 : 0 ≤ c) (h1 : c ≤ 255) : utf_digit.f 3 c = some (digitZ c) := by
  unfold utf_digit.f digitZ
  by_cases a : 48 ≤ c
  · rw [if_pos a]
    by_cases b : c ≤ 57
    · rw [if_pos ⟨a, b⟩]
      simp only [utf_digit.j0, decide_eq_true b, if_true]
      congr 1
      omega
    · rw [if_neg (by omega)]
      simp only [utf_digit.j0, decide_eq_false b, Bool.false_eq_true, if_false]
      by_cases d : 97 ≤ c
      · rw [if_pos d]
        by_cases e : c ≤ 102
        · rw [if_pos ⟨d, e⟩]
          simp only [utf_digit.j1, decide_eq_true e, if_true]
          congr 1
          omega
        · rw [if_neg (by omega), if_neg (by omega)]
          simp only [utf_digit.j1, decide_eq_false e, Bool.false_eq_true, if_false]
          rw [if_pos (by omega), if_neg (by omega)]
      · rw [if_neg d, if_neg (by omega)]
        simp only [utf_digit.j1, Bool.false_eq_true, if_false]
        by_cases e : 65 ≤ c
        · rw [if_pos e]
          by_cases g : c ≤ 70
          · rw [if_pos g, if_pos ⟨e, g⟩]
            congr 1
            omega
          · rw [if_neg g, if_neg (by omega)]
        · rw [if_neg e, if_neg (by omega)]
  · rw [if_neg a, if_neg (by omega), if_neg (by omega), if_neg (by omega)]
    simp only [utf_digit.j0, Bool.false_eq_true, if_false]
    rw [if_neg (by omega)]
    simp only [utf_digit.j1, Bool.false_eq_true, if_false]
    rw [if_neg (by omega)]

theorem digitZ_range (c : Int) : -1 ≤ digitZ c ∧ digitZ c ≤ 15 := by
  unfold digitZ
  repeat' split
  all_goals omega

/-- the number of the first digits behind two bytes -/
def accZ (s : ByteArray) : Nat → Int
  | 0 => 0
  | n + 1 => accZ s n * 16 + digitZ (bt s ((2 + n : Nat) : Int))

theorem i32_or4 (x y : Int) (hx₀ : 0 ≤ x) (hx : x % 16 = 0) (hx₁ : x < 2147483648) (h₀ : 0 ≤ y) (h₁ : y < 16) : bits .or .i32 x y = x + y :=
  bits_join .i32 31 (by decide) wraps_i32 4 x y hx₀ hx hx₁ h₀ h₁ (by omega)

/-- the number of the four digits behind two bytes; -1: one is none -/
def numZ (s : ByteArray) : Int := if digitZ (bt s 2) < 0 ∨ digitZ (bt s 3) < 0 ∨ digitZ (bt s 4) < 0 ∨ digitZ (bt s 5) < 0 then -1 else accZ s 4

theorem accZ_range (s : ByteArray) : ∀ n : Nat, (∀ j, j < n → 0 ≤ digitZ (bt s ((2 + j : Nat) : Int))) → 0 ≤ accZ s n ∧ accZ s n < 16 ^ n
  | 0, _ => by simp [accZ]
  | n + 1, h => by
    have ih := accZ_range s n (fun j hj => h j (by omega))
    have h1 := h n (by omega)
    have h2 := (digitZ_range (bt s ((2 + n : Nat) : Int))).2
    have e : (16 : Int) ^ (n + 1) = 16 ^ n * 16 := by rw [Int.pow_succ]
    unfold accZ
    rw [e]
    omega

theorem idx0 (a b c d : Value) (W : World) : (Instr.index 103 (.agg #[a, b, c, d]) (.int .i64 0)).run Tryd.prog W = .ok a W := by kernel_rfl
theorem idx1 (a b c d : Value) (W : World) : (Instr.index 103 (.agg #[a, b, c, d]) (.int .i64 1)).run Tryd.prog W = .ok b W := by kernel_rfl
theorem idx2 (a b c d : Value) (W : World) : (Instr.index 103 (.agg #[a, b, c, d]) (.int .i64 2)).run Tryd.prog W = .ok c W := by kernel_rfl
theorem idx3 (a b c d : Value) (W : World) : (Instr.index 103 (.agg #[a, b, c, d]) (.int .i64 3)).run Tryd.prog W = .ok d W := by kernel_rfl

set_option maxHeartbeats 4000000 in
set_option maxRecDepth 100000 in
theorem numbered_body (s : ByteArray) (h6 : 6 ≤ s.size) (hs : s.size ≤ 1152921504606846976) (h0 : bt s 0 = 92) (h1 : bt s 1 = 117) (w : World) :
    Calls Tryd.prog 62 #[.string s] w fun e w' => e = .returned (.int .i32 (numZ s)) ∧ Below w.heap.size w w' := by
  have he : (s.extract 2 6).size = 4 := by
    rw [ByteArray.size_extract]
    omega
  have hex : ∀ j : Nat, j < 4 → bt (s.extract 2 6) (j : Int) = bt s ((2 + j : Nat) : Int) := by
    intro j hj
    unfold bt
    rw [dif_pos (show (j : Int).toNat < (s.extract 2 6).size by rw [he]; omega), dif_pos (show (((2 + j : Nat) : Int)).toNat < s.size by omega)]
    congr 2
    rw [ByteArray.getElem_extract]
    rfl
  have hcv : ∀ W : World, (convert 9 74 (.string (s.extract 2 6))).run Tryd.prog W = .ok (.slice (some ⟨W.heap.size, 0, none⟩) 4 (grownCap W 4 0 5)) (Lib.bytesWorld W 5 (s.extract 2 6)) := by
    intro W
    rw [Lib.run_convert_string_bytes (P := Tryd.prog) W 9 74 5 (s.extract 2 6) Tryd.underlying9 Tryd.underlying74 Tryd.underlying5, he]
  have harr : ∀ W : World, (Instr.arrayAt 103 (.slice (some ⟨w.heap.size, 0, none⟩) 4 (grownCap w 4 0 5))).run Tryd.prog W = .ok (.pointer (some ⟨w.heap.size, 0, none⟩)) W := fun W => run_arrayAt (P := Tryd.prog) (w := W) 103 5 4 _ 4 _ Tryd.underlying103 (Nat.le_refl _)
  have hc : ∀ j : Nat, j < 4 → (Lib.bytesWorld w 5 (s.extract 2 6)).cell? ⟨w.heap.size, j, none⟩ = some (.int .u8 (bt s ((2 + j : Nat) : Int))) := by
    intro j hj
    rw [Lib.bytesWorld_cell w _ _ j (by rw [he]; exact hj), getD_bt _ j (by rw [he]; exact hj), hex j hj]
  have c0 : (Lib.bytesWorld w 5 (s.extract 2 6)).cell? ⟨w.heap.size, 0, none⟩ = some (.int .u8 (bt s 2)) := hc 0 (by omega)
  have c1 : (Lib.bytesWorld w 5 (s.extract 2 6)).cell? ⟨w.heap.size, 1, none⟩ = some (.int .u8 (bt s 3)) := hc 1 (by omega)
  have c2 : (Lib.bytesWorld w 5 (s.extract 2 6)).cell? ⟨w.heap.size, 2, none⟩ = some (.int .u8 (bt s 4)) := hc 2 (by omega)
  have c3 : (Lib.bytesWorld w 5 (s.extract 2 6)).cell? ⟨w.heap.size, 3, none⟩ = some (.int .u8 (bt s 5)) := hc 3 (by omega)
  have b0 : ((s[0]'(by omega)).toNat : Int) = 92 := by rw [← h0]; exact bt_at s 0 (by show 0 < s.size; omega)
  have b1 : ((s[1]'(by omega)).toNat : Int) = 117 := by rw [← h1]; exact bt_at s 1 (by show 1 < s.size; omega)
  clear h0 h1 hex hc he
  go_enter Tryd.func62, Tryd.ntmps62
  go_wp2
  obtain ⟨W1, hW1⟩ : ∃ W1, W1 = Lib.bytesWorld w 5 (s.extract 2 6) := ⟨_, rfl⟩
  rw [← hW1]
  have hb1 : Below w.heap.size w W1 := by
    rw [hW1]
    exact ⟨rfl, rfl, rfl, by rw [Lib.bytesWorld_size]; omega, fun k hk => Lib.bytesWorld_at_old w _ _ k hk⟩
  clear hW1 c0 c1 c2 c3 hcv harr b0 b1
  have I0 := idx0 (.int .u8 (bt s 2)) (.int .u8 (bt s 3)) (.int .u8 (bt s 4)) (.int .u8 (bt s 5))
  have I1 := idx1 (.int .u8 (bt s 2)) (.int .u8 (bt s 3)) (.int .u8 (bt s 4)) (.int .u8 (bt s 5))
  have I2 := idx2 (.int .u8 (bt s 2)) (.int .u8 (bt s 3)) (.int .u8 (bt s 4)) (.int .u8 (bt s 5))
  have I3 := idx3 (.int .u8 (bt s 2)) (.int .u8 (bt s 3)) (.int .u8 (bt s 4)) (.int .u8 (bt s 5))
  go_loopw [3, 24] (fun v i wr => ∃ n : Nat, i = .int .i64 n ∧ n ≤ 4 ∧ v = .int .i32 (accZ s n) ∧ Hid (∀ j, j < n → 0 ≤ digitZ (bt s ((2 + j : Nat) : Int))) ∧ Drawn0 W1 wr) (fun _ i _ => 4 - (intOf i).toNat)
  case atStart => exact ⟨0, rfl, by omega, rfl, fun j hj => absurd hj (Nat.not_lt_zero j), Drawn0.refl _⟩
  case round =>
    obtain ⟨n, rfl, hn, rfl, HD, ⟨nd, rfl⟩⟩ := hrel
    have hacc := accZ_range s n HD.out
    rcases (show n = 0 ∨ n = 1 ∨ n = 2 ∨ n = 3 ∨ n = 4 by omega) with rfl | rfl | rfl | rfl | rfl
    case inr.inr.inr.inr =>
      have hz : numZ s = accZ s 4 := by
        unfold numZ
        have a0 : 0 ≤ digitZ (bt s 2) := HD.out 0 (by omega)
        have a1 : 0 ≤ digitZ (bt s 3) := HD.out 1 (by omega)
        have a2 : 0 ≤ digitZ (bt s 4) := HD.out 2 (by omega)
        have a3 : 0 ≤ digitZ (bt s 5) := HD.out 3 (by omega)
        rw [if_neg (by omega)]
      have HZ : Hid (numZ s = accZ s 4) := hz
      clear hz I0 I1 I2 I3
      go_wp2
      go_ret
      exact ⟨congrArg (fun z => Ending.returned (.int .i32 z)) HZ.out.symm, by apply pw_below_drewN; exact hb1⟩
    case inl =>
      have hr := digitZ_range (bt s 2)
      have hb := bt_range s 2
      have hac : 0 ≤ accZ s 0 ∧ accZ s 0 < 16777216 := by
        have e : (16 : Int) ^ 0 ≤ 4096 := by decide
        exact ⟨hacc.1, by omega⟩
      have hq : Aside0 (utf_digit.f 3 (bt s 2) = some (digitZ (bt s 2))) := ⟨digit_eq _ hb.1 hb.2⟩
      clear I1 I2 I3 hacc
      by_cases hneg : digitZ (bt s 2) < 0
      · have hz : Hid (numZ s = -1) := by
          show numZ s = -1
          unfold numZ
          rw [if_pos (Or.inl hneg)]
        clear hr hb
        go_wp2_with (go_at_call 81; refine (utf_digit.calls 3 (bt s 2) (digitZ (bt s 2)) _ hq.out).mono ?_; rintro e w' ⟨rfl, ⟨nd, rfl⟩⟩)
        go_ret
        exact ⟨congrArg (fun z => Ending.returned (.int .i32 z)) hz.out.symm, by apply pw_below_drewN; exact hb1⟩
      · have hnn : ¬ digitZ (bt s 2) < 0 := hneg
        have hB : Hid (bits .or .i32 (accZ s 0 * 16) (digitZ (bt s 2)) = accZ s 1) := i32_or4 _ _ (by omega) (by omega) (by omega) (by omega) (by omega)
        have HD' : Hid (∀ j, j < 1 → 0 ≤ digitZ (bt s ((2 + j : Nat) : Int))) := by
          intro j hj
          rcases (show j < 0 ∨ j = 0 by omega) with h | rfl
          · exact HD.out j h
          · show 0 ≤ digitZ (bt s 2)
            omega
        clear hr hb
        go_wp2_with (go_at_call 81; refine (utf_digit.calls 3 (bt s 2) (digitZ (bt s 2)) _ hq.out).mono ?_; rintro e w' ⟨rfl, ⟨nd, rfl⟩⟩)
        case roundEnd => exact ⟨⟨1, rfl, by omega, congrArg (Value.int IntKind.i32) hB.out, HD', ⟨⟨_, rfl⟩⟩⟩, by show 4 - 1 < 4 - 0; decide⟩
    case inr.inl =>
      have hr := digitZ_range (bt s 3)
      have hb := bt_range s 3
      have hac : 0 ≤ accZ s 1 ∧ accZ s 1 < 16777216 := by
        have e : (16 : Int) ^ 1 ≤ 4096 := by decide
        exact ⟨hacc.1, by omega⟩
      have hq : Aside0 (utf_digit.f 3 (bt s 3) = some (digitZ (bt s 3))) := ⟨digit_eq _ hb.1 hb.2⟩
      clear I0 I2 I3 hacc
      by_cases hneg : digitZ (bt s 3) < 0
      · have hz : Hid (numZ s = -1) := by
          show numZ s = -1
          unfold numZ
          rw [if_pos (Or.inr (Or.inl hneg))]
        clear hr hb
        go_wp2_with (go_at_call 81; refine (utf_digit.calls 3 (bt s 3) (digitZ (bt s 3)) _ hq.out).mono ?_; rintro e w' ⟨rfl, ⟨nd, rfl⟩⟩)
        go_ret
        exact ⟨congrArg (fun z => Ending.returned (.int .i32 z)) hz.out.symm, by apply pw_below_drewN; exact hb1⟩
      · have hnn : ¬ digitZ (bt s 3) < 0 := hneg
        have hB : Hid (bits .or .i32 (accZ s 1 * 16) (digitZ (bt s 3)) = accZ s 2) := i32_or4 _ _ (by omega) (by omega) (by omega) (by omega) (by omega)
        have HD' : Hid (∀ j, j < 2 → 0 ≤ digitZ (bt s ((2 + j : Nat) : Int))) := by
          intro j hj
          rcases (show j < 1 ∨ j = 1 by omega) with h | rfl
          · exact HD.out j h
          · show 0 ≤ digitZ (bt s 3)
            omega
        clear hr hb
        go_wp2_with (go_at_call 81; refine (utf_digit.calls 3 (bt s 3) (digitZ (bt s 3)) _ hq.out).mono ?_; rintro e w' ⟨rfl, ⟨nd, rfl⟩⟩)
        case roundEnd => exact ⟨⟨2, rfl, by omega, congrArg (Value.int IntKind.i32) hB.out, HD', ⟨⟨_, rfl⟩⟩⟩, by show 4 - 2 < 4 - 1; decide⟩
    case inr.inr.inl =>
      have hr := digitZ_range (bt s 4)
      have hb := bt_range s 4
      have hac : 0 ≤ accZ s 2 ∧ accZ s 2 < 16777216 := by
        have e : (16 : Int) ^ 2 ≤ 4096 := by decide
        exact ⟨hacc.1, by omega⟩
      have hq : Aside0 (utf_digit.f 3 (bt s 4) = some (digitZ (bt s 4))) := ⟨digit_eq _ hb.1 hb.2⟩
      clear I0 I1 I3 hacc
      by_cases hneg : digitZ (bt s 4) < 0
      · have hz : Hid (numZ s = -1) := by
          show numZ s = -1
          unfold numZ
          rw [if_pos (Or.inr (Or.inr (Or.inl hneg)))]
        clear hr hb
        go_wp2_with (go_at_call 81; refine (utf_digit.calls 3 (bt s 4) (digitZ (bt s 4)) _ hq.out).mono ?_; rintro e w' ⟨rfl, ⟨nd, rfl⟩⟩)
        go_ret
        exact ⟨congrArg (fun z => Ending.returned (.int .i32 z)) hz.out.symm, by apply pw_below_drewN; exact hb1⟩
      · have hnn : ¬ digitZ (bt s 4) < 0 := hneg
        have hB : Hid (bits .or .i32 (accZ s 2 * 16) (digitZ (bt s 4)) = accZ s 3) := i32_or4 _ _ (by omega) (by omega) (by omega) (by omega) (by omega)
        have HD' : Hid (∀ j, j < 3 → 0 ≤ digitZ (bt s ((2 + j : Nat) : Int))) := by
          intro j hj
          rcases (show j < 2 ∨ j = 2 by omega) with h | rfl
          · exact HD.out j h
          · show 0 ≤ digitZ (bt s 4)
            omega
        clear hr hb
        go_wp2_with (go_at_call 81; refine (utf_digit.calls 3 (bt s 4) (digitZ (bt s 4)) _ hq.out).mono ?_; rintro e w' ⟨rfl, ⟨nd, rfl⟩⟩)
        case roundEnd => exact ⟨⟨3, rfl, by omega, congrArg (Value.int IntKind.i32) hB.out, HD', ⟨⟨_, rfl⟩⟩⟩, by show 4 - 3 < 4 - 2; decide⟩
    case inr.inr.inr.inl =>
      have hr := digitZ_range (bt s 5)
      have hb := bt_range s 5
      have hac : 0 ≤ accZ s 3 ∧ accZ s 3 < 16777216 := by
        have e : (16 : Int) ^ 3 ≤ 4096 := by decide
        exact ⟨hacc.1, by omega⟩
      have hq : Aside0 (utf_digit.f 3 (bt s 5) = some (digitZ (bt s 5))) := ⟨digit_eq _ hb.1 hb.2⟩
      clear I0 I1 I2 hacc
      by_cases hneg : digitZ (bt s 5) < 0
      · have hz : Hid (numZ s = -1) := by
          show numZ s = -1
          unfold numZ
          rw [if_pos (Or.inr (Or.inr (Or.inr hneg)))]
        clear hr hb
        go_wp2_with (go_at_call 81; refine (utf_digit.calls 3 (bt s 5) (digitZ (bt s 5)) _ hq.out).mono ?_; rintro e w' ⟨rfl, ⟨nd, rfl⟩⟩)
        go_ret
        exact ⟨congrArg (fun z => Ending.returned (.int .i32 z)) hz.out.symm, by apply pw_below_drewN; exact hb1⟩
      · have hnn : ¬ digitZ (bt s 5) < 0 := hneg
        have hB : Hid (bits .or .i32 (accZ s 3 * 16) (digitZ (bt s 5)) = accZ s 4) := i32_or4 _ _ (by omega) (by omega) (by omega) (by omega) (by omega)
        have HD' : Hid (∀ j, j < 4 → 0 ≤ digitZ (bt s ((2 + j : Nat) : Int))) := by
          intro j hj
          rcases (show j < 3 ∨ j = 3 by omega) with h | rfl
          · exact HD.out j h
          · show 0 ≤ digitZ (bt s 5)
            omega
        clear hr hb
        go_wp2_with (go_at_call 81; refine (utf_digit.calls 3 (bt s 5) (digitZ (bt s 5)) _ hq.out).mono ?_; rintro e w' ⟨rfl, ⟨nd, rfl⟩⟩)
        case roundEnd => exact ⟨⟨4, rfl, by omega, congrArg (Value.int IntKind.i32) hB.out, HD', ⟨⟨_, rfl⟩⟩⟩, by show 4 - 4 < 4 - 3; decide⟩

/-- the number of an escape by number that a text begins with -/
def numberedZ (s : ByteArray) : Int := if 6 ≤ s.size ∧ bt s 0 = 92 ∧ bt s 1 = 117 then numZ s else -1

def utf_numbered.f (a0 : ByteArray) : Option Int := if a0.size ≤ 1152921504606846976 then some (numberedZ a0) else none

set_option maxHeartbeats 4000000 in
set_option maxRecDepth 100000 in
theorem utf_numbered.calls (a0 : ByteArray) (r : Int) (w : World) (h : utf_numbered.f a0 = some r) :
    Calls Tryd.prog 62 #[.string a0] w fun e w' => e = .returned (.int .i32 r) ∧ Below w.heap.size w w' := by
  unfold utf_numbered.f at h
  by_cases hs : a0.size ≤ 1152921504606846976
  · rw [if_pos hs, Option.some.injEq] at h
    by_cases hc : 6 ≤ a0.size ∧ bt a0 0 = 92 ∧ bt a0 1 = 117
    · unfold numberedZ at h
      rw [if_pos hc] at h
      subst h
      exact numbered_body a0 hc.1 hs hc.2.1 hc.2.2 w
    · unfold numberedZ at h
      rw [if_neg hc] at h
      subst h
      by_cases h6 : 6 ≤ a0.size
      · have b0 : ∀ h : 0 < a0.size, ((a0[0]'h).toNat : Int) = bt a0 0 := fun h => bt_at a0 0 h
        have b1 : ∀ h : 1 < a0.size, ((a0[1]'h).toNat : Int) = bt a0 1 := fun h => bt_at a0 1 h
        have e0 : bt a0 0 ≠ 92 ∨ bt a0 1 ≠ 117 := by omega
        clear hc
        rcases e0 with e0 | e0
        · have b0' : ((a0[0]'(by omega)).toNat : Int) ≠ 92 := by rw [b0]; exact e0
          clear b0 b1 e0
          go_enter Tryd.func62, Tryd.ntmps62
          go_wp2
          go_ret
          exact ⟨rfl, Below.refl _ _⟩
        · have b1' : ((a0[1]'(by omega)).toNat : Int) ≠ 117 := by rw [b1]; exact e0
          clear b0 b1 e0
          go_enter Tryd.func62, Tryd.ntmps62
          go_wp2
          all_goals first
            | (go_ret; exact ⟨rfl, Below.refl _ _⟩)
            | (exfalso; first | omega | (simp_all; done) | (simp at *; omega))
      · clear hc
        go_enter Tryd.func62, Tryd.ntmps62
        go_wp2
        go_ret
        exact ⟨rfl, Below.refl _ _⟩
  · rw [if_neg hs] at h
    exact absurd h (by simp)

end Go.Proofs.YthlmhnlfcnpocaaDoor.U
