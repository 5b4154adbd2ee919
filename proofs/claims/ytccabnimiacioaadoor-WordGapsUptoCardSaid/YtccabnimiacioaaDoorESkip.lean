/- The contracts of word.run at the other kinds of bytes, and of the scanner's skip. -/
import Derived.Test.YtccabnimiacioaaDoorENamed
import Derived.Test.YtccabnimiacioaaDoorScanner
import Derived.BigQuiet
import Derived.Deep.RegionWith
import Derived.Deep.QuietTactic
import Derived.Deep.LoopGhost
import Derived.Deep.DeepCutAuto
import Derived.StillTailTactics
namespace Go.Proofs.YtccabnimiacioaaDoor.U
open Go.RowKit Go.Proofs.YtccabnimiacioaaDoorW.PrintWords
set_option linter.unusedSimpArgs false

def blankB (c : Int) : Bool := (word_isBlank.f c) == some true
theorem isBlank_some (c : Int) : word_isBlank.f c = some (blankB c) := by
  have : ∃ b, word_isBlank.f c = some b := by
    unfold word_isBlank.f
    repeat' split
    all_goals exact ⟨_, rfl⟩
  obtain ⟨b, hb⟩ := this
  unfold blankB
  rw [hb]
  cases b <;> rfl
theorem run_isBlank (s : ByteArray) (i0 : Nat) (hi0 : i0 ≤ s.size) (hs : s.size ≤ 140737488351232) (w : World) :
    Calls Tryd.prog 17 #[.string s, .int .i64 i0, .func (.func 18) #[] #[]] w fun e w' => e = .returned (.int .i64 (runEnd blankB s (s.size - i0) i0)) ∧ Drawn0 w w' := by
  go_enter Tryd.func17, Tryd.ntmps17
  go_wp2
  go_loopw [1] (fun v wr => ∃ i : Nat, v = .int .i64 i ∧ i ≤ s.size ∧ Hid (runEnd blankB s (s.size - i) i = runEnd blankB s (s.size - i0) i0) ∧ Drawn0 w wr) (fun v _ => s.size - (intOf v).toNat)
  case atStart => exact ⟨i0, rfl, hi0, rfl, Drawn0.refl w⟩
  case round =>
    obtain ⟨i, rfl, hi, HR, ⟨n, rfl⟩⟩ := hrel
    by_cases hlt : i < s.size
    · obtain ⟨f, hf⟩ : ∃ f, s.size - i = f + 1 := ⟨s.size - i - 1, by omega⟩
      have hf2 : s.size - (i + 1) = f := by omega
      have hx : ∀ h : i < s.size, ((s[i]'h).toNat : Int) = bt s (i : Int) := fun h => bt_at s (i : Int) h
      cases hb : blankB (bt s i) with
      | true =>
        have Hn : Hid (runEnd blankB s (s.size - (i + 1)) (i + 1) = runEnd blankB s (s.size - i0) i0) := by
          refine Eq.trans ?_ HR.out
          rw [hf, hf2]
          conv => rhs; unfold runEnd
          rw [if_pos hlt, if_pos hb]
        have HN : Hid (word_isBlank.f (bt s i) = some true) := by rw [← hb]; exact isBlank_some _
        clear hb hf hf2
        go_wp2_with (go_at_call 18; refine (word_isBlank.calls (bt s i) true _ HN.out).mono ?_; rintro e w' ⟨rfl, ⟨nd, rfl⟩⟩)
        go_roundw
        case rel => exact ⟨i + 1, by go_num, by omega, Hn, by repeat (first | exact Drawn0.refl _ | apply Drawn0.step)⟩
        case measure => simp [intOf]; omega
      | false =>
        have Hn : Hid (i = runEnd blankB s (s.size - i0) i0) := by
          refine Eq.trans ?_ HR.out
          rw [hf]
          conv => rhs; unfold runEnd
          rw [if_pos hlt, if_neg (by rw [hb]; decide)]
        have HN : Hid (word_isBlank.f (bt s i) = some false) := by rw [← hb]; exact isBlank_some _
        clear hb hf hf2
        go_wp2_with (go_at_call 18; refine (word_isBlank.calls (bt s i) false _ HN.out).mono ?_; rintro e w' ⟨rfl, ⟨nd, rfl⟩⟩)
        go_ret
        exact ⟨congrArg (fun z : Nat => Ending.returned (.int .i64 (z : Int))) Hn.out, by repeat (first | exact Drawn0.refl _ | apply Drawn0.step)⟩
    · have Hn : Hid (i = runEnd blankB s (s.size - i0) i0) := by
        refine Eq.trans ?_ HR.out
        have : s.size - i = 0 := by omega
        rw [this]
        rfl
      go_wp2
      go_ret
      exact ⟨congrArg (fun z : Nat => Ending.returned (.int .i64 (z : Int))) Hn.out, by repeat (first | exact Drawn0.refl _ | apply Drawn0.step)⟩

def remarkB (c : Int) : Bool := (word_inRemark.f c) == some true
theorem inRemark_some (c : Int) : word_inRemark.f c = some (remarkB c) := by
  have : ∃ b, word_inRemark.f c = some b := by
    unfold word_inRemark.f
    repeat' split
    all_goals exact ⟨_, rfl⟩
  obtain ⟨b, hb⟩ := this
  unfold remarkB
  rw [hb]
  cases b <;> rfl
theorem run_inRemark (s : ByteArray) (i0 : Nat) (hi0 : i0 ≤ s.size) (hs : s.size ≤ 140737488351232) (w : World) :
    Calls Tryd.prog 17 #[.string s, .int .i64 i0, .func (.func 19) #[] #[]] w fun e w' => e = .returned (.int .i64 (runEnd remarkB s (s.size - i0) i0)) ∧ Drawn0 w w' := by
  go_enter Tryd.func17, Tryd.ntmps17
  go_wp2
  go_loopw [1] (fun v wr => ∃ i : Nat, v = .int .i64 i ∧ i ≤ s.size ∧ Hid (runEnd remarkB s (s.size - i) i = runEnd remarkB s (s.size - i0) i0) ∧ Drawn0 w wr) (fun v _ => s.size - (intOf v).toNat)
  case atStart => exact ⟨i0, rfl, hi0, rfl, Drawn0.refl w⟩
  case round =>
    obtain ⟨i, rfl, hi, HR, ⟨n, rfl⟩⟩ := hrel
    by_cases hlt : i < s.size
    · obtain ⟨f, hf⟩ : ∃ f, s.size - i = f + 1 := ⟨s.size - i - 1, by omega⟩
      have hf2 : s.size - (i + 1) = f := by omega
      have hx : ∀ h : i < s.size, ((s[i]'h).toNat : Int) = bt s (i : Int) := fun h => bt_at s (i : Int) h
      cases hb : remarkB (bt s i) with
      | true =>
        have Hn : Hid (runEnd remarkB s (s.size - (i + 1)) (i + 1) = runEnd remarkB s (s.size - i0) i0) := by
          refine Eq.trans ?_ HR.out
          rw [hf, hf2]
          conv => rhs; unfold runEnd
          rw [if_pos hlt, if_pos hb]
        have HN : Hid (word_inRemark.f (bt s i) = some true) := by rw [← hb]; exact inRemark_some _
        clear hb hf hf2
        go_wp2_with (go_at_call 19; refine (word_inRemark.calls (bt s i) true _ HN.out).mono ?_; rintro e w' ⟨rfl, ⟨nd, rfl⟩⟩)
        go_roundw
        case rel => exact ⟨i + 1, by go_num, by omega, Hn, by repeat (first | exact Drawn0.refl _ | apply Drawn0.step)⟩
        case measure => simp [intOf]; omega
      | false =>
        have Hn : Hid (i = runEnd remarkB s (s.size - i0) i0) := by
          refine Eq.trans ?_ HR.out
          rw [hf]
          conv => rhs; unfold runEnd
          rw [if_pos hlt, if_neg (by rw [hb]; decide)]
        have HN : Hid (word_inRemark.f (bt s i) = some false) := by rw [← hb]; exact inRemark_some _
        clear hb hf hf2
        go_wp2_with (go_at_call 19; refine (word_inRemark.calls (bt s i) false _ HN.out).mono ?_; rintro e w' ⟨rfl, ⟨nd, rfl⟩⟩)
        go_ret
        exact ⟨congrArg (fun z : Nat => Ending.returned (.int .i64 (z : Int))) Hn.out, by repeat (first | exact Drawn0.refl _ | apply Drawn0.step)⟩
    · have Hn : Hid (i = runEnd remarkB s (s.size - i0) i0) := by
        refine Eq.trans ?_ HR.out
        have : s.size - i = 0 := by omega
        rw [this]
        rfl
      go_wp2
      go_ret
      exact ⟨congrArg (fun z : Nat => Ending.returned (.int .i64 (z : Int))) Hn.out, by repeat (first | exact Drawn0.refl _ | apply Drawn0.step)⟩

def numeralB (c : Int) : Bool := (word_inNumeral.f c) == some true
theorem inNumeral_some (c : Int) : word_inNumeral.f c = some (numeralB c) := by
  unfold numeralB word_inNumeral.f
  rw [inName_some]
  cases inNameB c
  · simp
  · rfl
theorem run_inNumeral (s : ByteArray) (i0 : Nat) (hi0 : i0 ≤ s.size) (hs : s.size ≤ 140737488351232) (w : World) :
    Calls Tryd.prog 17 #[.string s, .int .i64 i0, .func (.func 26) #[] #[]] w fun e w' => e = .returned (.int .i64 (runEnd numeralB s (s.size - i0) i0)) ∧ Drawn0 w w' := by
  go_enter Tryd.func17, Tryd.ntmps17
  go_wp2
  go_loopw [1] (fun v wr => ∃ i : Nat, v = .int .i64 i ∧ i ≤ s.size ∧ Hid (runEnd numeralB s (s.size - i) i = runEnd numeralB s (s.size - i0) i0) ∧ Drawn0 w wr) (fun v _ => s.size - (intOf v).toNat)
  case atStart => exact ⟨i0, rfl, hi0, rfl, Drawn0.refl w⟩
  case round =>
    obtain ⟨i, rfl, hi, HR, ⟨n, rfl⟩⟩ := hrel
    by_cases hlt : i < s.size
    · obtain ⟨f, hf⟩ : ∃ f, s.size - i = f + 1 := ⟨s.size - i - 1, by omega⟩
      have hf2 : s.size - (i + 1) = f := by omega
      have hx : ∀ h : i < s.size, ((s[i]'h).toNat : Int) = bt s (i : Int) := fun h => bt_at s (i : Int) h
      cases hb : numeralB (bt s i) with
      | true =>
        have Hn : Hid (runEnd numeralB s (s.size - (i + 1)) (i + 1) = runEnd numeralB s (s.size - i0) i0) := by
          refine Eq.trans ?_ HR.out
          rw [hf, hf2]
          conv => rhs; unfold runEnd
          rw [if_pos hlt, if_pos hb]
        have HN : Hid (word_inNumeral.f (bt s i) = some true) := by rw [← hb]; exact inNumeral_some _
        clear hb hf hf2
        go_wp2_with (go_at_call 26; refine (word_inNumeral.calls (bt s i) true _ HN.out).mono ?_; rintro e w' ⟨rfl, ⟨nd, rfl⟩⟩)
        go_roundw
        case rel => exact ⟨i + 1, by go_num, by omega, Hn, by repeat (first | exact Drawn0.refl _ | apply Drawn0.step)⟩
        case measure => simp [intOf]; omega
      | false =>
        have Hn : Hid (i = runEnd numeralB s (s.size - i0) i0) := by
          refine Eq.trans ?_ HR.out
          rw [hf]
          conv => rhs; unfold runEnd
          rw [if_pos hlt, if_neg (by rw [hb]; decide)]
        have HN : Hid (word_inNumeral.f (bt s i) = some false) := by rw [← hb]; exact inNumeral_some _
        clear hb hf hf2
        go_wp2_with (go_at_call 26; refine (word_inNumeral.calls (bt s i) false _ HN.out).mono ?_; rintro e w' ⟨rfl, ⟨nd, rfl⟩⟩)
        go_ret
        exact ⟨congrArg (fun z : Nat => Ending.returned (.int .i64 (z : Int))) Hn.out, by repeat (first | exact Drawn0.refl _ | apply Drawn0.step)⟩
    · have Hn : Hid (i = runEnd numeralB s (s.size - i0) i0) := by
        refine Eq.trans ?_ HR.out
        have : s.size - i = 0 := by omega
        rw [this]
        rfl
      go_wp2
      go_ret
      exact ⟨congrArg (fun z : Nat => Ending.returned (.int .i64 (z : Int))) Hn.out, by repeat (first | exact Drawn0.refl _ | apply Drawn0.step)⟩


/-- the place behind blanks and remarks -/
def skipZ (s : ByteArray) : Nat → Nat → Nat
  | 0, i => i
  | f + 1, i => if runEnd blankB s (s.size - i) i = s.size then s.size else if bt s (runEnd blankB s (s.size - i) i : Nat) ≠ 35 then runEnd blankB s (s.size - i) i
    else skipZ s f (runEnd remarkB s (s.size - runEnd blankB s (s.size - i) i) (runEnd blankB s (s.size - i) i))

set_option maxHeartbeats 8000000 in
set_option maxRecDepth 100000 in
theorem skip_calls {B b : Nat} {s : ByteArray} {toks : List Tok} {op : List Int} {e pl : Int} {vt vo : Value} (W : World) (i : Nat) (hi : i ≤ s.size) (hs : s.size ≤ 140737488351232) (h : Sc B b s i toks op e pl vt vo W) :
    Calls Tryd.prog 12 #[.pointer (some ⟨b, 0, none⟩)] W fun r w' => r = .returned (.tuple #[]) ∧ Sc B b s (skipZ s (s.size + 1 - i) i) toks op e pl vt vo w' ∧ Below B W w' := by
  obtain ⟨R, hR⟩ : ∃ R, skipZ s (s.size + 1 - i) i = R := ⟨_, rfl⟩
  rw [hR]
  have HR := Lib.hid hR
  have H := Lib.hid h
  clear h hR
  go_enter Tryd.func12, Tryd.ntmps12
  go_wp2_with fail
  go_loopg [] (s.size - i) (fun g wx => ∃ j f : Nat, Hid (skipZ s f j = R) ∧ s.size < j + f ∧ j ≤ s.size ∧ g = s.size - j ∧ Hid (Sc B b s j toks op e pl vt vo wx) ∧ Below B W wx)
  case atStart => exact ⟨i, s.size + 1 - i, HR, by omega, hi, rfl, H, Below.refl _ _⟩
  case round =>
    clear HR H hi
    obtain ⟨j, f, HR, hf, hj, hg, H, hb⟩ := hrel
    obtain ⟨f, rfl⟩ : ∃ m, f = m + 1 := ⟨f - 1, by omega⟩
    have c0 := H.out.c0
    have c1 := H.out.c1
    have f1 := H.out.fr 1
    have hlow := H.out.low
    have hbd := runEnd_bounds blankB s (s.size - j) j hj
    have hcall := run_isBlank s j hj hs
    obtain ⟨k, hk⟩ : ∃ k, runEnd blankB s (s.size - j) j = k := ⟨_, rfl⟩
    rw [hk] at hbd hcall
    have HK := Lib.hid hk
    clear hk
    go_wp2_with fail
    go_region_with
      ((refine (hcall _).mono ?_; rintro e w' ⟨rfl, ⟨nd, rfl⟩⟩))
    all_goals
      have H2 : Hid (Sc B b s k toks op e pl vt vo ((wr.drewN (1 + nd)).setCell ⟨b, 1, none⟩ (.int .i64 k))) := (H.out.below (by apply pw_below_drewN; exact Below.refl _ _)).at k
      have hb2 : Below B W ((wr.drewN (1 + nd)).setCell ⟨b, 1, none⟩ (.int .i64 k)) := Below.setCell (by apply pw_below_drewN; exact hb) (p := ⟨b, 1, none⟩) hlow _
      generalize (wr.drewN (1 + nd)).setCell ⟨b, 1, none⟩ (.int .i64 (k : Int)) = w2 at H2 hb2 ⊢
      clear c0 c1 f1 H hb hcall
      have c0 := H2.out.c0
      have c1 := H2.out.c1
      have f1 := H2.out.fr 1
      by_cases hk1 : k = s.size
      · have HE : Hid (k = R) := by
          refine Eq.trans ?_ HR.out
          unfold skipZ
          rw [HK.out, if_pos hk1]
          exact hk1
        have hd : ((k : Int) == (s.size : Int)) = true := by rw [hk1]; simp
        clear HR HK
        go_wp2_with fail
        go_quiet (fail)
        all_goals
          go_wp2
          refine bodyPost_ret (results_none rfl _ _ _) rfl ?_
          rw [← HE.out]
          exact ⟨rfl, H2.out.below (by apply pw_below_drewN; exact Below.refl _ _), by apply pw_below_drewN; exact hb2⟩
      · have hd : ((k : Int) == (s.size : Int)) = false := beq_eq_false_iff_ne.2 (by omega)
        have hlt : k < s.size := by omega
        have hx : ((s[k]'hlt).toNat : Int) = bt s (k : Int) := bt_at s (k : Int) hlt
        have hl0 : (0 : Int) ≤ (k : Int) := by omega
        have hl1 : (k : Int) < (s.size : Int) := by omega
        by_cases hc : bt s (k : Int) = 35
        · have hn : (((s[k]'hlt).toNat : Int) != 35) = false := by rw [hx, hc]; rfl
          have hbm := runEnd_bounds remarkB s (s.size - k) k (by omega)
          have hcall := run_inRemark s k (by omega) hs
          have hstep : k < runEnd remarkB s (s.size - k) k := by
            obtain ⟨g0, hg0⟩ : ∃ g0, s.size - k = g0 + 1 := ⟨s.size - k - 1, by omega⟩
            have hbm2 := runEnd_bounds remarkB s g0 (k + 1) (by omega)
            rw [hg0]
            unfold runEnd
            rw [if_pos hlt, hc, if_pos (by decide)]
            omega
          obtain ⟨m, hm⟩ : ∃ m, runEnd remarkB s (s.size - k) k = m := ⟨_, rfl⟩
          rw [hm] at hbm hcall hstep
          have HE : Hid (skipZ s f m = R) := by
            refine Eq.trans ?_ HR.out
            conv => rhs; unfold skipZ
            rw [HK.out, if_neg hk1, if_neg (fun g => g hc), hm]
          clear HR HK hx hc hm
          go_wp2_with fail
          go_quiet (fail)
          all_goals
            have H3 : Hid (Sc B b s k toks op e pl vt vo (w2.drewN nq)) := H2.out.below (by apply pw_below_drewN; exact Below.refl _ _)
            have hb3 : Below B W (w2.drewN nq) := by apply pw_below_drewN; exact hb2
            generalize w2.drewN nq = w3 at H3 hb3 ⊢
            clear c0 c1 f1 H2 hb2
            have c0 := H3.out.c0
            have c1 := H3.out.c1
            have f1 := H3.out.fr 1
            go_wp2_with fail
            go_region_with
              ((refine (hcall _).mono ?_; rintro e2 w' ⟨rfl, ⟨nd, rfl⟩⟩))
            all_goals
              have H4 : Hid (Sc B b s m toks op e pl vt vo ((w3.drewN (1 + nd)).setCell ⟨b, 1, none⟩ (.int .i64 m))) := (H3.out.below (by apply pw_below_drewN; exact Below.refl _ _)).at m
              have hb4 : Below B W ((w3.drewN (1 + nd)).setCell ⟨b, 1, none⟩ (.int .i64 m)) := Below.setCell (by apply pw_below_drewN; exact hb3) (p := ⟨b, 1, none⟩) hlow _
              go_wp2
              go_roundg (s.size - m)
              case measure => omega
              case rel => exact ⟨m, f, HE, by omega, by omega, rfl, H4, hb4⟩
        · have HE : Hid (k = R) := by
            refine Eq.trans ?_ HR.out
            unfold skipZ
            rw [HK.out, if_neg hk1, if_pos hc]
          have hn : (((s[k]'hlt).toNat : Int) != 35) = true := by rw [hx]; exact bne_iff_ne.2 hc
          clear HR HK hx hc
          go_wp2_with fail
          go_quiet (fail)
          all_goals
            go_wp2
            refine bodyPost_ret (results_none rfl _ _ _) rfl ?_
            rw [← HE.out]
            exact ⟨rfl, H2.out.below (by apply pw_below_drewN; exact Below.refl _ _), by apply pw_below_drewN; exact hb2⟩

end Go.Proofs.YtccabnimiacioaaDoor.U
