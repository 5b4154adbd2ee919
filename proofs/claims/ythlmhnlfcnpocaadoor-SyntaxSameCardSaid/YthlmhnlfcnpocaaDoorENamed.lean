/- The contract of word.run at word.inName, and of word.Named in the printer's form. -/
import Derived.Test.YthlmhnlfcnpocaaDoorUL0
import Derived.Lib.IndexBytes
namespace Go.Proofs.YthlmhnlfcnpocaaDoor.U
open Go.RowKit Go.Proofs.YthlmhnlfcnpocaaDoorW.PrintWords

/-- is a byte a letter, a digit or '_'? -/
def inNameB (c : Int) : Bool := (word_inName.f c) == some true

theorem isLetter_some (c : Int) : ∃ b, word_isLetter.f c = some b := by
  unfold word_isLetter.f
  repeat' split
  all_goals exact ⟨_, rfl⟩
theorem isDigit_some (c : Int) : ∃ b, word_isDigit.f c = some b := by
  unfold word_isDigit.f
  split <;> exact ⟨_, rfl⟩
theorem inName_some (c : Int) : word_inName.f c = some (inNameB c) := by
  obtain ⟨b, hb⟩ := isLetter_some c
  obtain ⟨d, hd⟩ := isDigit_some c
  unfold inNameB word_inName.f
  rw [hb, hd]
  cases b <;> cases d <;> rfl

/-- the end of the longest run of such bytes from a place on -/
def runEnd (p : Int → Bool) (s : ByteArray) : Nat → Nat → Nat
  | 0, i => i
  | f + 1, i => if i < s.size then (if p (bt s i) = true then runEnd p s f (i + 1) else i) else i

theorem runEnd_bounds (p : Int → Bool) (s : ByteArray) : ∀ f i, i ≤ s.size → i ≤ runEnd p s f i ∧ runEnd p s f i ≤ s.size
  | 0, i, h => ⟨Nat.le_refl _, h⟩
  | f + 1, i, h => by
    unfold runEnd
    split
    · split
      · have := runEnd_bounds p s f (i + 1) (by omega)
        omega
      · omega
    · omega

theorem run_inName (s : ByteArray) (i0 : Nat) (hi0 : i0 ≤ s.size) (hs : s.size ≤ 140737488351232) (w : World) :
    Calls Tryd.prog 29 #[.string s, .int .i64 i0, .func (.func 34) #[] #[]] w fun e w' => e = .returned (.int .i64 (runEnd inNameB s (s.size - i0) i0)) ∧ Drawn0 w w' := by
  go_enter Tryd.func29, Tryd.ntmps29
  go_wp2
  go_loopw [1] (fun v wr => ∃ i : Nat, v = .int .i64 i ∧ i ≤ s.size ∧ Hid (runEnd inNameB s (s.size - i) i = runEnd inNameB s (s.size - i0) i0) ∧ Drawn0 w wr) (fun v _ => s.size - (intOf v).toNat)
  case atStart => exact ⟨i0, rfl, hi0, rfl, Drawn0.refl w⟩
  case round =>
    obtain ⟨i, rfl, hi, HR, ⟨n, rfl⟩⟩ := hrel
    by_cases hlt : i < s.size
    · obtain ⟨f, hf⟩ : ∃ f, s.size - i = f + 1 := ⟨s.size - i - 1, by omega⟩
      have hf2 : s.size - (i + 1) = f := by omega
      have hx : ∀ h : i < s.size, ((s[i]'h).toNat : Int) = bt s (i : Int) := fun h => bt_at s (i : Int) h
      cases hb : inNameB (bt s i) with
      | true =>
        have Hn : Hid (runEnd inNameB s (s.size - (i + 1)) (i + 1) = runEnd inNameB s (s.size - i0) i0) := by
          refine Eq.trans ?_ HR.out
          rw [hf, hf2]
          conv => rhs; unfold runEnd
          rw [if_pos hlt, if_pos hb]
        have HN : Hid (word_inName.f (bt s i) = some true) := by rw [← hb]; exact inName_some _
        clear hb hf hf2
        go_wp2_with (go_at_call 34; refine (word_inName.calls (bt s i) true _ HN.out).mono ?_; rintro e w' ⟨rfl, ⟨nd, rfl⟩⟩)
        go_roundw
        case rel => exact ⟨i + 1, by go_num, by omega, Hn, by repeat (first | exact Drawn0.refl _ | apply Drawn0.step)⟩
        case measure => simp [intOf]; omega
      | false =>
        have Hn : Hid (i = runEnd inNameB s (s.size - i0) i0) := by
          refine Eq.trans ?_ HR.out
          rw [hf]
          conv => rhs; unfold runEnd
          rw [if_pos hlt, if_neg (by rw [hb]; decide)]
        have HN : Hid (word_inName.f (bt s i) = some false) := by rw [← hb]; exact inName_some _
        clear hb hf hf2
        go_wp2_with (go_at_call 34; refine (word_inName.calls (bt s i) false _ HN.out).mono ?_; rintro e w' ⟨rfl, ⟨nd, rfl⟩⟩)
        go_ret
        exact ⟨congrArg (fun z : Nat => Ending.returned (.int .i64 (z : Int))) Hn.out, by repeat (first | exact Drawn0.refl _ | apply Drawn0.step)⟩
    · have Hn : Hid (i = runEnd inNameB s (s.size - i0) i0) := by
        refine Eq.trans ?_ HR.out
        have : s.size - i = 0 := by omega
        rw [this]
        rfl
      go_wp2
      go_ret
      exact ⟨congrArg (fun z : Nat => Ending.returned (.int .i64 (z : Int))) Hn.out, by repeat (first | exact Drawn0.refl _ | apply Drawn0.step)⟩

def word_Named.f (a0 : ByteArray) : Option Bool :=
  if a0.size = 0 then some false else if a0.size ≤ 140737488351232 then (word_isLetter.f (bt a0 0)).bind fun b => if b = true then some (decide (runEnd inNameB a0 a0.size 0 = a0.size)) else some false else none

theorem word_Named.calls (a0 : ByteArray) (r : Bool) (w : World) (h : word_Named.f a0 = some r) :
    Calls Tryd.prog 55 #[.string a0] w fun e w' => e = .returned (.bool r) ∧ Drawn0 w w' := by
  unfold word_Named.f at h
  by_cases h0 : a0.size = 0
  · rw [if_pos h0] at h
    obtain rfl := Option.some.inj h
    obtain rfl : a0 = ⟨#[]⟩ := by
      obtain ⟨⟨l⟩⟩ := a0
      cases l with
      | nil => rfl
      | cons c t => exact absurd h0 (by simp [ByteArray.size])
    clear h h0
    go_enter Tryd.func55, Tryd.ntmps55
    go_wp2
    go_ret
    exact ⟨rfl, Drawn0.refl w⟩
  · rw [if_neg h0] at h
    by_cases h1 : a0.size ≤ 140737488351232
    · rw [if_pos h1] at h
      obtain ⟨b, hb, h⟩ := Option.bind_eq_some_iff.mp h
      have HB := Aside0.mk hb
      have hp : 0 < a0.size := by omega
      have hx : ∀ h : 0 < a0.size, ((a0[0]'h).toNat : Int) = bt a0 0 := fun h => bt_at a0 0 h
      have hne : (a0.toList.isEmpty) = false := by
        rw [Lib.toList_data]
        cases hl : a0.data.toList with
        | nil => exact absurd (by rw [Lib.size_eq, hl]; rfl) h0
        | cons _ _ => rfl
      have hbd := runEnd_bounds inNameB a0 a0.size 0 (Nat.zero_le _)
      cases b with
      | true =>
        obtain rfl := Option.some.inj h
        clear hb h h0
        go_enter Tryd.func55, Tryd.ntmps55
        go_wp2_with (first | (go_at_call 33; refine (word_isLetter.calls (bt a0 0) true _ HB.out).mono ?_; rintro e w' ⟨rfl, ⟨nd, rfl⟩⟩) | (go_at_call 29; refine (run_inName a0 0 (Nat.zero_le _) h1 _).mono ?_; rintro e w' ⟨rfl, ⟨nd, rfl⟩⟩))
        go_ret
        refine ⟨?_, by repeat (first | exact Drawn0.refl _ | apply Drawn0.step)⟩
        simp
        rw [Bool.eq_iff_iff, beq_iff_eq, decide_eq_true_eq]
        omega
      | false =>
        obtain rfl := Option.some.inj h
        clear hb h h0
        go_enter Tryd.func55, Tryd.ntmps55
        go_wp2_with (first | (go_at_call 33; refine (word_isLetter.calls (bt a0 0) false _ HB.out).mono ?_; rintro e w' ⟨rfl, ⟨nd, rfl⟩⟩))
        go_ret
        exact ⟨rfl, by repeat (first | exact Drawn0.refl _ | apply Drawn0.step)⟩
    · rw [if_neg h1] at h
      cases h

end Go.Proofs.YthlmhnlfcnpocaaDoor.U
