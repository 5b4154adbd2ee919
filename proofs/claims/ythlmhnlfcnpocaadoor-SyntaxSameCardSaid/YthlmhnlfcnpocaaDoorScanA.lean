/- What one token leaves. -/
import Derived.Test.YthlmhnlfcnpocaaDoorENamed
import Derived.Test.YthlmhnlfcnpocaaDoorScanner
import Derived.BigQuiet
import Derived.Deep.RegionWith
import Derived.Deep.QuietTactic
import Derived.Deep.LoopGhost
import Derived.Deep.DeepCutAuto
import Derived.StillTailTactics
import Derived.Test.YthlmhnlfcnpocaaDoorDec
import Derived.Test.YthlmhnlfcnpocaaDoorBuilderR
import Derived.OwnWalk
import Derived.Laws.OwnMore
import Derived.RegionTactic
namespace Go.Proofs.YthlmhnlfcnpocaaDoor.U
open Go.RowKit Go.Proofs.YthlmhnlfcnpocaaDoorW.PrintWords
set_option linter.unusedSimpArgs false

def blankB (c : Int) : Bool := (word_isBlank.f c) == some true
theorem isBlank_some (c : Int) : word_isBlank.f c = some (blankB c) := by
  have : ∃ b, word_isBlank.f c = some b := by
    unfold word_isBlank.f
    repeat' split
    all_goals exact ⟨_, rfl⟩
  obtain ⟨b, hb⟩ := this
  unfold blankB
  rw [hb]
  cases b <;> rfl
theorem run_isBlank (s : ByteArray) (i0 : Nat) (hi0 : i0 ≤ s.size) (hs : s.size ≤ 140737488351232) (w : World) :
    Calls Tryd.prog 29 #[.string s, .int .i64 i0, .func (.func 30) #[] #[]] w fun e w' => e = .returned (.int .i64 (runEnd blankB s (s.size - i0) i0)) ∧ Drawn0 w w' := by
  go_enter Tryd.func29, Tryd.ntmps29
  go_wp2
  go_loopw [1] (fun v wr => ∃ i : Nat, v = .int .i64 i ∧ i ≤ s.size ∧ Hid (runEnd blankB s (s.size - i) i = runEnd blankB s (s.size - i0) i0) ∧ Drawn0 w wr) (fun v _ => s.size - (intOf v).toNat)
  case atStart => exact ⟨i0, rfl, hi0, rfl, Drawn0.refl w⟩
  case round =>
    obtain ⟨i, rfl, hi, HR, ⟨n, rfl⟩⟩ := hrel
    by_cases hlt : i < s.size
    · obtain ⟨f, hf⟩ : ∃ f, s.size - i = f + 1 := ⟨s.size - i - 1, by omega⟩
      have hf2 : s.size - (i + 1) = f := by omega
      have hx : ∀ h : i < s.size, ((s[i]'h).toNat : Int) = bt s (i : Int) := fun h => bt_at s (i : Int) h
      cases hb : blankB (bt s i) with
      | true =>
        have Hn : Hid (runEnd blankB s (s.size - (i + 1)) (i + 1) = runEnd blankB s (s.size - i0) i0) := by
          refine Eq.trans ?_ HR.out
          rw [hf, hf2]
          conv => rhs; unfold runEnd
          rw [if_pos hlt, if_pos hb]
        have HN : Hid (word_isBlank.f (bt s i) = some true) := by rw [← hb]; exact isBlank_some _
        clear hb hf hf2
        go_wp2_with (go_at_call 30; refine (word_isBlank.calls (bt s i) true _ HN.out).mono ?_; rintro e w' ⟨rfl, ⟨nd, rfl⟩⟩)
        go_roundw
        case rel => exact ⟨i + 1, by go_num, by omega, Hn, by repeat (first | exact Drawn0.refl _ | apply Drawn0.step)⟩
        case measure => simp [intOf]; omega
      | false =>
        have Hn : Hid (i = runEnd blankB s (s.size - i0) i0) := by
          refine Eq.trans ?_ HR.out
          rw [hf]
          conv => rhs; unfold runEnd
          rw [if_pos hlt, if_neg (by rw [hb]; decide)]
        have HN : Hid (word_isBlank.f (bt s i) = some false) := by rw [← hb]; exact isBlank_some _
        clear hb hf hf2
        go_wp2_with (go_at_call 30; refine (word_isBlank.calls (bt s i) false _ HN.out).mono ?_; rintro e w' ⟨rfl, ⟨nd, rfl⟩⟩)
        go_ret
        exact ⟨congrArg (fun z : Nat => Ending.returned (.int .i64 (z : Int))) Hn.out, by repeat (first | exact Drawn0.refl _ | apply Drawn0.step)⟩
    · have Hn : Hid (i = runEnd blankB s (s.size - i0) i0) := by
        refine Eq.trans ?_ HR.out
        have : s.size - i = 0 := by omega
        rw [this]
        rfl
      go_wp2
      go_ret
      exact ⟨congrArg (fun z : Nat => Ending.returned (.int .i64 (z : Int))) Hn.out, by repeat (first | exact Drawn0.refl _ | apply Drawn0.step)⟩

def remarkB (c : Int) : Bool := (word_inRemark.f c) == some true
theorem inRemark_some (c : Int) : word_inRemark.f c = some (remarkB c) := by
  have : ∃ b, word_inRemark.f c = some b := by
    unfold word_inRemark.f
    repeat' split
    all_goals exact ⟨_, rfl⟩
  obtain ⟨b, hb⟩ := this
  unfold remarkB
  rw [hb]
  cases b <;> rfl
theorem run_inRemark (s : ByteArray) (i0 : Nat) (hi0 : i0 ≤ s.size) (hs : s.size ≤ 140737488351232) (w : World) :
    Calls Tryd.prog 29 #[.string s, .int .i64 i0, .func (.func 31) #[] #[]] w fun e w' => e = .returned (.int .i64 (runEnd remarkB s (s.size - i0) i0)) ∧ Drawn0 w w' := by
  go_enter Tryd.func29, Tryd.ntmps29
  go_wp2
  go_loopw [1] (fun v wr => ∃ i : Nat, v = .int .i64 i ∧ i ≤ s.size ∧ Hid (runEnd remarkB s (s.size - i) i = runEnd remarkB s (s.size - i0) i0) ∧ Drawn0 w wr) (fun v _ => s.size - (intOf v).toNat)
  case atStart => exact ⟨i0, rfl, hi0, rfl, Drawn0.refl w⟩
  case round =>
    obtain ⟨i, rfl, hi, HR, ⟨n, rfl⟩⟩ := hrel
    by_cases hlt : i < s.size
    · obtain ⟨f, hf⟩ : ∃ f, s.size - i = f + 1 := ⟨s.size - i - 1, by omega⟩
      have hf2 : s.size - (i + 1) = f := by omega
      have hx : ∀ h : i < s.size, ((s[i]'h).toNat : Int) = bt s (i : Int) := fun h => bt_at s (i : Int) h
      cases hb : remarkB (bt s i) with
      | true =>
        have Hn : Hid (runEnd remarkB s (s.size - (i + 1)) (i + 1) = runEnd remarkB s (s.size - i0) i0) := by
          refine Eq.trans ?_ HR.out
          rw [hf, hf2]
          conv => rhs; unfold runEnd
          rw [if_pos hlt, if_pos hb]
        have HN : Hid (word_inRemark.f (bt s i) = some true) := by rw [← hb]; exact inRemark_some _
        clear hb hf hf2
        go_wp2_with (go_at_call 31; refine (word_inRemark.calls (bt s i) true _ HN.out).mono ?_; rintro e w' ⟨rfl, ⟨nd, rfl⟩⟩)
        go_roundw
        case rel => exact ⟨i + 1, by go_num, by omega, Hn, by repeat (first | exact Drawn0.refl _ | apply Drawn0.step)⟩
        case measure => simp [intOf]; omega
      | false =>
        have Hn : Hid (i = runEnd remarkB s (s.size - i0) i0) := by
          refine Eq.trans ?_ HR.out
          rw [hf]
          conv => rhs; unfold runEnd
          rw [if_pos hlt, if_neg (by rw [hb]; decide)]
        have HN : Hid (word_inRemark.f (bt s i) = some false) := by rw [← hb]; exact inRemark_some _
        clear hb hf hf2
        go_wp2_with (go_at_call 31; refine (word_inRemark.calls (bt s i) false _ HN.out).mono ?_; rintro e w' ⟨rfl, ⟨nd, rfl⟩⟩)
        go_ret
        exact ⟨congrArg (fun z : Nat => Ending.returned (.int .i64 (z : Int))) Hn.out, by repeat (first | exact Drawn0.refl _ | apply Drawn0.step)⟩
    · have Hn : Hid (i = runEnd remarkB s (s.size - i0) i0) := by
        refine Eq.trans ?_ HR.out
        have : s.size - i = 0 := by omega
        rw [this]
        rfl
      go_wp2
      go_ret
      exact ⟨congrArg (fun z : Nat => Ending.returned (.int .i64 (z : Int))) Hn.out, by repeat (first | exact Drawn0.refl _ | apply Drawn0.step)⟩

def numeralB (c : Int) : Bool := (word_inNumeral.f c) == some true
theorem inNumeral_some (c : Int) : word_inNumeral.f c = some (numeralB c) := by
  unfold numeralB word_inNumeral.f
  rw [inName_some]
  cases inNameB c
  · simp
  · rfl
theorem run_inNumeral (s : ByteArray) (i0 : Nat) (hi0 : i0 ≤ s.size) (hs : s.size ≤ 140737488351232) (w : World) :
    Calls Tryd.prog 29 #[.string s, .int .i64 i0, .func (.func 39) #[] #[]] w fun e w' => e = .returned (.int .i64 (runEnd numeralB s (s.size - i0) i0)) ∧ Drawn0 w w' := by
  go_enter Tryd.func29, Tryd.ntmps29
  go_wp2
  go_loopw [1] (fun v wr => ∃ i : Nat, v = .int .i64 i ∧ i ≤ s.size ∧ Hid (runEnd numeralB s (s.size - i) i = runEnd numeralB s (s.size - i0) i0) ∧ Drawn0 w wr) (fun v _ => s.size - (intOf v).toNat)
  case atStart => exact ⟨i0, rfl, hi0, rfl, Drawn0.refl w⟩
  case round =>
    obtain ⟨i, rfl, hi, HR, ⟨n, rfl⟩⟩ := hrel
    by_cases hlt : i < s.size
    · obtain ⟨f, hf⟩ : ∃ f, s.size - i = f + 1 := ⟨s.size - i - 1, by omega⟩
      have hf2 : s.size - (i + 1) = f := by omega
      have hx : ∀ h : i < s.size, ((s[i]'h).toNat : Int) = bt s (i : Int) := fun h => bt_at s (i : Int) h
      cases hb : numeralB (bt s i) with
      | true =>
        have Hn : Hid (runEnd numeralB s (s.size - (i + 1)) (i + 1) = runEnd numeralB s (s.size - i0) i0) := by
          refine Eq.trans ?_ HR.out
          rw [hf, hf2]
          conv => rhs; unfold runEnd
          rw [if_pos hlt, if_pos hb]
        have HN : Hid (word_inNumeral.f (bt s i) = some true) := by rw [← hb]; exact inNumeral_some _
        clear hb hf hf2
        go_wp2_with (go_at_call 39; refine (word_inNumeral.calls (bt s i) true _ HN.out).mono ?_; rintro e w' ⟨rfl, ⟨nd, rfl⟩⟩)
        go_roundw
        case rel => exact ⟨i + 1, by go_num, by omega, Hn, by repeat (first | exact Drawn0.refl _ | apply Drawn0.step)⟩
        case measure => simp [intOf]; omega
      | false =>
        have Hn : Hid (i = runEnd numeralB s (s.size - i0) i0) := by
          refine Eq.trans ?_ HR.out
          rw [hf]
          conv => rhs; unfold runEnd
          rw [if_pos hlt, if_neg (by rw [hb]; decide)]
        have HN : Hid (word_inNumeral.f (bt s i) = some false) := by rw [← hb]; exact inNumeral_some _
        clear hb hf hf2
        go_wp2_with (go_at_call 39; refine (word_inNumeral.calls (bt s i) false _ HN.out).mono ?_; rintro e w' ⟨rfl, ⟨nd, rfl⟩⟩)
        go_ret
        exact ⟨congrArg (fun z : Nat => Ending.returned (.int .i64 (z : Int))) Hn.out, by repeat (first | exact Drawn0.refl _ | apply Drawn0.step)⟩
    · have Hn : Hid (i = runEnd numeralB s (s.size - i0) i0) := by
        refine Eq.trans ?_ HR.out
        have : s.size - i = 0 := by omega
        rw [this]
        rfl
      go_wp2
      go_ret
      exact ⟨congrArg (fun z : Nat => Ending.returned (.int .i64 (z : Int))) Hn.out, by repeat (first | exact Drawn0.refl _ | apply Drawn0.step)⟩


/-- the place behind blanks and remarks -/
def skipZ (s : ByteArray) : Nat → Nat → Nat
  | 0, i => i
  | f + 1, i => if runEnd blankB s (s.size - i) i = s.size then s.size else if bt s (runEnd blankB s (s.size - i) i : Nat) ≠ 35 then runEnd blankB s (s.size - i) i
    else skipZ s f (runEnd remarkB s (s.size - runEnd blankB s (s.size - i) i) (runEnd blankB s (s.size - i) i))

set_option maxHeartbeats 8000000 in
set_option maxRecDepth 100000 in
theorem skip_calls {B b : Nat} {s : ByteArray} {toks : List Tok} {op : List Int} {e pl : Int} {vt vo : Value} (W : World) (i : Nat) (hi : i ≤ s.size) (hs : s.size ≤ 140737488351232) (h : Sc B b s i toks op e pl vt vo W) :
    Calls Tryd.prog 18 #[.pointer (some ⟨b, 0, none⟩)] W fun r w' => r = .returned (.tuple #[]) ∧ Sc B b s (skipZ s (s.size + 1 - i) i) toks op e pl vt vo w' ∧ Below B W w' := by
  obtain ⟨R, hR⟩ : ∃ R, skipZ s (s.size + 1 - i) i = R := ⟨_, rfl⟩
  rw [hR]
  have HR := Lib.hid hR
  have H := Lib.hid h
  clear h hR
  go_enter Tryd.func18, Tryd.ntmps18
  go_wp2_with fail
  go_loopg [] (s.size - i) (fun g wx => ∃ j f : Nat, Hid (skipZ s f j = R) ∧ s.size < j + f ∧ j ≤ s.size ∧ g = s.size - j ∧ Hid (Sc B b s j toks op e pl vt vo wx) ∧ Below B W wx)
  case atStart => exact ⟨i, s.size + 1 - i, HR, by omega, hi, rfl, H, Below.refl _ _⟩
  case round =>
    clear HR H hi
    obtain ⟨j, f, HR, hf, hj, hg, H, hb⟩ := hrel
    obtain ⟨f, rfl⟩ : ∃ m, f = m + 1 := ⟨f - 1, by omega⟩
    have c0 := H.out.c0
    have c1 := H.out.c1
    have f1 := H.out.fr 1
    have hlow := H.out.low
    have hbd := runEnd_bounds blankB s (s.size - j) j hj
    have hcall := run_isBlank s j hj hs
    obtain ⟨k, hk⟩ : ∃ k, runEnd blankB s (s.size - j) j = k := ⟨_, rfl⟩
    rw [hk] at hbd hcall
    have HK := Lib.hid hk
    clear hk
    go_wp2_with fail
    go_region_with
      ((refine (hcall _).mono ?_; rintro e w' ⟨rfl, ⟨nd, rfl⟩⟩))
    all_goals
      have H2 : Hid (Sc B b s k toks op e pl vt vo ((wr.drewN (1 + nd)).setCell ⟨b, 1, none⟩ (.int .i64 k))) := (H.out.below (by apply pw_below_drewN; exact Below.refl _ _)).at k
      have hb2 : Below B W ((wr.drewN (1 + nd)).setCell ⟨b, 1, none⟩ (.int .i64 k)) := Below.setCell (by apply pw_below_drewN; exact hb) (p := ⟨b, 1, none⟩) hlow _
      generalize (wr.drewN (1 + nd)).setCell ⟨b, 1, none⟩ (.int .i64 (k : Int)) = w2 at H2 hb2 ⊢
      clear c0 c1 f1 H hb hcall
      have c0 := H2.out.c0
      have c1 := H2.out.c1
      have f1 := H2.out.fr 1
      by_cases hk1 : k = s.size
      · have HE : Hid (k = R) := by
          refine Eq.trans ?_ HR.out
          unfold skipZ
          rw [HK.out, if_pos hk1]
          exact hk1
        have hd : ((k : Int) == (s.size : Int)) = true := by rw [hk1]; simp
        clear HR HK
        go_wp2_with fail
        go_quiet (fail)
        all_goals
          go_wp2
          refine bodyPost_ret (results_none rfl _ _ _) rfl ?_
          rw [← HE.out]
          exact ⟨rfl, H2.out.below (by apply pw_below_drewN; exact Below.refl _ _), by apply pw_below_drewN; exact hb2⟩
      · have hd : ((k : Int) == (s.size : Int)) = false := beq_eq_false_iff_ne.2 (by omega)
        have hlt : k < s.size := by omega
        have hx : ((s[k]'hlt).toNat : Int) = bt s (k : Int) := bt_at s (k : Int) hlt
        have hl0 : (0 : Int) ≤ (k : Int) := by omega
        have hl1 : (k : Int) < (s.size : Int) := by omega
        by_cases hc : bt s (k : Int) = 35
        · have hn : (((s[k]'hlt).toNat : Int) != 35) = false := by rw [hx, hc]; rfl
          have hbm := runEnd_bounds remarkB s (s.size - k) k (by omega)
          have hcall := run_inRemark s k (by omega) hs
          have hstep : k < runEnd remarkB s (s.size - k) k := by
            obtain ⟨g0, hg0⟩ : ∃ g0, s.size - k = g0 + 1 := ⟨s.size - k - 1, by omega⟩
            have hbm2 := runEnd_bounds remarkB s g0 (k + 1) (by omega)
            rw [hg0]
            unfold runEnd
            rw [if_pos hlt, hc, if_pos (by decide)]
            omega
          obtain ⟨m, hm⟩ : ∃ m, runEnd remarkB s (s.size - k) k = m := ⟨_, rfl⟩
          rw [hm] at hbm hcall hstep
          have HE : Hid (skipZ s f m = R) := by
            refine Eq.trans ?_ HR.out
            conv => rhs; unfold skipZ
            rw [HK.out, if_neg hk1, if_neg (fun g => g hc), hm]
          clear HR HK hx hc hm
          go_wp2_with fail
          go_quiet (fail)
          all_goals
            have H3 : Hid (Sc B b s k toks op e pl vt vo (w2.drewN nq)) := H2.out.below (by apply pw_below_drewN; exact Below.refl _ _)
            have hb3 : Below B W (w2.drewN nq) := by apply pw_below_drewN; exact hb2
            generalize w2.drewN nq = w3 at H3 hb3 ⊢
            clear c0 c1 f1 H2 hb2
            have c0 := H3.out.c0
            have c1 := H3.out.c1
            have f1 := H3.out.fr 1
            go_wp2_with fail
            go_region_with
              ((refine (hcall _).mono ?_; rintro e2 w' ⟨rfl, ⟨nd, rfl⟩⟩))
            all_goals
              have H4 : Hid (Sc B b s m toks op e pl vt vo ((w3.drewN (1 + nd)).setCell ⟨b, 1, none⟩ (.int .i64 m))) := (H3.out.below (by apply pw_below_drewN; exact Below.refl _ _)).at m
              have hb4 : Below B W ((w3.drewN (1 + nd)).setCell ⟨b, 1, none⟩ (.int .i64 m)) := Below.setCell (by apply pw_below_drewN; exact hb3) (p := ⟨b, 1, none⟩) hlow _
              go_wp2
              go_roundg (s.size - m)
              case measure => omega
              case rel => exact ⟨m, f, HE, by omega, by omega, rfl, H4, hb4⟩
        · have HE : Hid (k = R) := by
            refine Eq.trans ?_ HR.out
            unfold skipZ
            rw [HK.out, if_neg hk1, if_pos hc]
          have hn : (((s[k]'hlt).toNat : Int) != 35) = true := by rw [hx]; exact bne_iff_ne.2 hc
          clear HR HK hx hc
          go_wp2_with fail
          go_quiet (fail)
          all_goals
            go_wp2
            refine bodyPost_ret (results_none rfl _ _ _) rfl ?_
            rw [← HE.out]
            exact ⟨rfl, H2.out.below (by apply pw_below_drewN; exact Below.refl _ _), by apply pw_below_drewN; exact hb2⟩

end Go.Proofs.YthlmhnlfcnpocaaDoor.U

namespace Go.Proofs.YthlmhnlfcnpocaaDoor.U
open Go.RowKit Go.Proofs.YthlmhnlfcnpocaaDoorW.PrintWords
set_option linter.unusedSimpArgs false

/-- a piece of a text from a place on, once some of it is read: the error, the place, whether it is the last one, what it says -/
def pieceZ (s : ByteArray) : Nat → Nat → List UInt8 → Int × Nat × Bool × List UInt8
  | 0, _, _ => (21, s.size, false, [])
  | f + 1, i, acc =>
    if i < s.size then
      if bt s (i : Int) = 34 then (0, i + 1, true, acc)
      else if bt s (i : Int) = 92 ∧ (i + 1 < s.size ∧ bt s ((i + 1 : Nat) : Int) = 40) then (0, i + 2, false, acc)
      else if bt s (i : Int) = 92 then
        if (escT (s.extract i s.size)).2.2 = 0 then pieceZ s f (i + (escT (s.extract i s.size)).2.1.toNat) (acc ++ Lib.encodeRune (escT (s.extract i s.size)).1)
        else ((escT (s.extract i s.size)).2.2, i, false, [])
      else if bt s (i : Int) < 32 then (22, i, false, [])
      else if (Utf8.decode s i).1 = 65533 ∧ (Utf8.decode s i).2 = 1 then (20, i, false, [])
      else pieceZ s f (i + (Utf8.decode s i).2) (acc ++ Lib.encodeRune ((Utf8.decode s i).1 : Int))
    else (21, s.size, false, [])

theorem paren_prefix (s : ByteArray) (i : Nat) (_ : i < s.size) : Lib.hasPrefix (s.extract (i + 1) s.size).data.toList (⟨#[40]⟩ : ByteArray).data.toList = decide (i + 1 < s.size ∧ bt s ((i + 1 : Nat) : Int) = 40) := by
  have hx : (s.extract (i + 1) s.size).data.toList = s.data.toList.drop (i + 1) := by
    rw [Lib.extract_data, List.take_of_length_le (by rw [List.length_drop, ← Lib.size_eq]; omega)]
  rw [hx]
  unfold Lib.hasPrefix
  by_cases c : i + 1 < s.size
  · have hl : i + 1 < s.data.toList.length := by rw [← Lib.size_eq]; exact c
    have hb : bt s ((i + 1 : Nat) : Int) = (s.data.toList[i + 1].toNat : Int) := by
      rw [← getD_bt s (i + 1) c, List.getD_eq_getElem?_getD, List.getElem?_eq_getElem hl]
      rfl
    rw [List.drop_eq_getElem_cons hl, hb, Bool.eq_iff_iff, decide_eq_true_eq]
    show ((40 == s.data.toList[i + 1]) && true) = true ↔ _
    rw [Bool.and_true, beq_iff_eq]
    constructor
    · intro e
      exact ⟨c, by rw [← e]; rfl⟩
    · rintro ⟨_, e⟩
      apply UInt8.toNat_inj.1
      have e2 : s.data.toList[i + 1].toNat = 40 := by omega
      rw [e2]
      rfl
  · have hn : s.data.toList.drop (i + 1) = [] := List.drop_eq_nil_of_le (by rw [← Lib.size_eq]; omega)
    rw [hn, Bool.eq_iff_iff, decide_eq_true_eq]
    constructor
    · intro e
      exact absurd e (by decide)
    · rintro ⟨e, _⟩
      exact absurd e c

/-- what a piece leaves: a token more, or the fault -/
def PieceEnd (B b : Nat) (s : ByteArray) (i : Nat) (toks : List Tok) (op : List Int) (vt vo : Value) (last more : Int) (opL opM : List Int) (r : Int × Nat × Bool × List UInt8) (w' : World) : Prop :=
  (r.1 = 0 ∧ ∃ vt' vo', Sc B b s r.2.1 (toks ++ [⟨if r.2.2.1 = true then last else more, i, r.2.1, ⟨r.2.2.2.toArray⟩⟩]) (if r.2.2.1 = true then opL else opM) 0 0 vt' vo' w') ∨
  (r.1 ≠ 0 ∧ Sc B b s i toks op r.1 r.2.1 vt vo w')

theorem infoInt : (Tryd.prog.info? 3).map (fun i => (i.zero, i.size, i.bytes)) = some (some (.int .i64 0), 1, 8) := by kernel_rfl
theorem Bld.StringK (B b : Nat) (l : List UInt8) (w : World) (h : Bld.Is B b (Lib.byteCells l) w) (hBw : B ≤ w.heap.size) :
    Calls Tryd.prog 51 #[.pointer (some ⟨b, 0, none⟩)] w fun e w' => e = .returned (.string ⟨l.toArray⟩) ∧ Below B w w' ∧ Lib.OthersKept 5 (some b) w w' :=
  (Tryd.Builder_String_any_k B b l w (Lib.IsBuilderF.of h) hBw).mono fun _ _ ⟨he, _, hb, hk⟩ => ⟨he, hb, hk⟩
theorem Bld.Is.apart {B b : Nat} {bs : List Value} {w w' : World} (h : Bld.Is B b bs w) (hm : ∀ (k : Nat) (cs : Array Value) (t : TypeId), w.heap[k]? = some (.cells cs t (0, 0)) → t ≠ 53 → t ≠ 3 → w'.heap[k]? = w.heap[k]?) : Bld.Is B b bs w' := by
  refine Bld.Is.moved h ?_
  rintro k (rfl | ⟨cells, hc⟩)
  · obtain ⟨cs, hc⟩ := Bld.Is.shape h
    exact hm _ _ _ hc (by decide) (by decide)
  · exact hm _ _ _ hc (by decide) (by decide)

set_option maxHeartbeats 16000000 in
set_option maxRecDepth 100000 in
theorem piece_first {B b : Nat} {s : ByteArray} {toks : List Tok} {op : List Int} {vt vo : Value} (W : World) (i : Nat) (hi : i < s.size) (hs : s.size ≤ 1073741824) (ht : toks.length ≤ i) (hol : op.length ≤ i) (h : Sc B b s i toks op 0 0 vt vo W) (hT : Tabs W) :
    Calls Tryd.prog 32 #[.pointer (some ⟨b, 0, none⟩), .int .i64 6, .int .i64 7] W fun r w' => r = .returned (.tuple #[]) ∧ PieceEnd B b s i toks op vt vo 6 7 op (op ++ [0]) (pieceZ s s.size (i + 1) []) w' ∧ Below B W w' := by
  obtain ⟨R, hR⟩ : ∃ R, pieceZ s s.size (i + 1) [] = R := ⟨_, rfl⟩
  rw [hR]
  have HR := Lib.hid hR
  have c1 := h.c1
  have c0 := h.c0
  have hlow := h.low
  have hlt := h.lt
  have H := Lib.hid h
  have HT := Lib.hid hT
  have hDW : B ≤ W.heap.size := Nat.le_trans hlow (Nat.le_of_lt hlt)
  clear h hR hT
  go_enter Tryd.func32, Tryd.ntmps32
  go_wp2
  clear c1 c0
  go_loopw [7] (fun x wr => ∃ (pos f : Nat) (acc : List UInt8), x = .int .i64 pos ∧ Hid (pieceZ s f pos acc = R) ∧ s.size ≤ pos + f ∧ i + 1 ≤ pos ∧ pos ≤ s.size ∧ acc.length ≤ 4 * pos ∧ Hid (Bld.Is W.heap.size W.heap.size (Lib.byteCells acc) wr) ∧ Below W.heap.size W wr) (fun x _ => s.size - (intOf x).toNat)
  case atStart => exact ⟨i + 1, s.size, [], by go_num, HR, by omega, Nat.le_refl _, by omega, by simp, Lib.fresh_isBuilder 76 5 W, (Below.refl _ W).alloc (Nat.le_refl _) _⟩
  case round =>
    clear HR
    obtain ⟨pos, f, acc, rfl, HU, hf, hip, hpl, hal, hI, hbw⟩ := hrel
    have S : Hid (Sc B b s i toks op 0 0 vt vo wr) := H.out.below hbw
    have c0 := S.out.c0
    by_cases hp : pos < s.size
    · obtain ⟨f, rfl⟩ : ∃ g, f = g + 1 := ⟨f - 1, by omega⟩
      have hTr : Tabs wr := HT.out.below hbw
      have hD := dec_calls s pos hp wr hTr
      clear hTr
      have hwd := Utf.at_width s pos hp
      have hrr := Utf.decode_range s pos
      have hpp := paren_prefix s pos hp
      rw [pieceZ.eq_def] at HU
      simp only at HU
      rw [if_pos hp] at HU
      obtain ⟨rr, hr⟩ : ∃ x, x = (Utf8.decode s pos).1 := ⟨_, rfl⟩
      obtain ⟨nn, hn⟩ : ∃ x, x = (Utf8.decode s pos).2 := ⟨_, rfl⟩
      rw [← hr, ← hn] at HU hD
      rw [← hn] at hwd
      rw [← hr] at hrr
      clear hr hn
      have hx := bt_at s (pos : Int) hp
      have hcr := bt_range s (pos : Int)
      obtain ⟨c, hc⟩ : ∃ c, bt s (pos : Int) = c := ⟨_, rfl⟩
      rw [hc] at HU hx hcr
      clear hc
      have hx' : ((s[pos]'hp).toNat : Int) = c := hx
      clear hx
      by_cases g1 : c = 34
      · subst g1
        have HE : Hid (((0 : Int), pos + 1, true, acc) = R) := by
          refine Eq.trans ?_ HU.out
          rw [if_pos rfl]
        clear HU hpp
        go_wp2_with (first
          | (go_at_call 50; (with_reducible refine hD.mono ?_); rintro e0 w1 ⟨rfl, hb1⟩; have hbw1 := hbw.trans (hb1.mono hbw.size); have S1 := Lib.hid (H.out.below hbw1); have c0a := S1.out.c0; have c3a := S1.out.c3; have f3a := S1.out.fr 3; have hI1 := Lib.hid (Bld.Is.below hI.out hb1))
          | (go_at_call 51; (with_reducible refine (Bld.StringK W.heap.size W.heap.size acc _ hI1.out hbw1.size).mono ?_); rintro e0 w4 ⟨rfl, hb4, hk4⟩; have hbw4 := hbw1.trans hb4; have S4 := Lib.hid (H.out.below hbw4))
          | (go_at_call 36; (with_reducible refine (token_calls _ 6 _ ⟨acc.toArray⟩ S4.out (by omega)).mono ?_); rintro e0 w5 ⟨rfl, v5, S5, hb5⟩))
        refine bodyPost_ret (results_none rfl _ _ _) rfl ?_
        rw [← HE.out]
        exact ⟨rfl, Or.inl ⟨rfl, v5, vo, S5⟩, (hbw4.mono hDW).trans hb5⟩
      by_cases g2 : c = 92
      · subst g2
        by_cases g3 : pos + 1 < s.size ∧ bt s ((pos + 1 : Nat) : Int) = 40
        · rw [decide_eq_true g3] at hpp
          have HE : Hid (((0 : Int), pos + 2, false, acc) = R) := by
            refine Eq.trans ?_ HU.out
            rw [if_neg (by decide), if_pos ⟨rfl, g3⟩]
          clear HU g3 g1
          obtain ⟨i0, hi0, hz0, hz1, hz2⟩ := info_parts infoInt
          have HI0 := Lib.hid hi0
          have HZ0 := Lib.hid hz0
          have HZ1 := Lib.hid hz1
          have HZ2 := Lib.hid hz2
          clear hi0 hz0 hz1 hz2
          go_wp2_with (first
            | (go_at_call 50; (with_reducible refine hD.mono ?_); rintro e0 w1 ⟨rfl, hb1⟩; have hbw1 := hbw.trans (hb1.mono hbw.size); have S1 := Lib.hid (H.out.below hbw1); have c0a := S1.out.c0; have c3a := S1.out.c3; have f3a := S1.out.fr 3; have hI1 := Lib.hid (Bld.Is.below hI.out hb1))
            | (go_at_call 52; (with_reducible refine (Tryd.strings_HasPrefix (s.extract (pos + 1) s.size) _ _).mono ?_); rintro e0 w2 ⟨rfl, hw2⟩; obtain rfl := hw2.symm; rw [hpp])
            | (at_builtin; refine wpList_append_own _ rfl (.tmp 84) (.tmp 85) 51 rfl B 3 i0 (.int .i64 0) 1 8 Tryd.underlying51 HI0.out HZ0.out HZ1.out HZ2.out rfl (by decide) _ _ _ rfl (S1.out.opn.alloc _) ⟨w1.heap.size, 0, none⟩ 1 1 [.int .i64 0] rfl rfl ?a1 ?a2 ?a3 ?a4 ?a5 ?_; (case a1 => exact cell_one_new _ _ _); (case a2 => simp [Value.oneCell']); (case a3 => unfold maxLen; omega); (case a4 => omega); (case a5 => simp; have := hbw1.size; omega); intro v6 w6 hown6 hg6 _; obtain ⟨A6, c6, rfl⟩ := own_slice hown6; have hb6 : w6.heap[b]? = w1.heap[b]? := (hg6.block b (by simp; have := S1.out.lt; omega) S1.out.neO).trans (Below.heap_alloc w1 _ b S1.out.lt); have c3b := cell_by hb6 c3a; have f3b := frozen_by hb6 f3a; have SA := Lib.hid (S1.out.below ((Below.refl _ w1).alloc (Nat.le_refl _) (.cells #[.int .i64 0] 3))); have S6 := Lib.hid (Sc.opens (op1 := op ++ [0]) SA.out (by simpa [nums] using hown6) hg6); have hI6 := Lib.hid (Bld.Is.apart (Bld.Is.below hI1.out ((Below.refl _ w1).alloc (Nat.le_refl _) (.cells #[.int .i64 0] 3))) (fun k cs t hk h1 h2 => Sc.apartO (v1 := .slice A6 (op.length + 1) c6) SA.out hg6 k cs t hk h1 h2)); have hbw6 : Below B W (w6.setCell ⟨b, 3, none⟩ (.slice A6 (op.length + 1) c6)) := ((((hbw1.mono hDW).alloc (by have := hbw1.size; omega) _).grown hg6 (by simp; have := hbw1.size; omega) (fun k hk => own_base S1.out.opn k hk)).setCell (p := ⟨b, 3, none⟩) hlow _))
            | (go_at_call 51; (with_reducible refine (Bld.StringK W.heap.size W.heap.size acc _ hI6.out hbw6.size).mono ?_); rintro e0 w4 ⟨rfl, hb4, hk4⟩; have hbw4 := hbw6.trans (hb4.mono hDW); have S4 := Lib.hid (Sc.others S6.out hk4 (Bld.Is.shape hI6.out)))
            | (go_at_call 36; (with_reducible refine (token_calls _ 7 _ ⟨acc.toArray⟩ S4.out (by omega)).mono ?_); rintro e0 w5 ⟨rfl, v5, S5, hb5⟩))
          refine bodyPost_ret (results_none rfl _ _ _) rfl ?_
          rw [← HE.out]
          exact ⟨rfl, Or.inl ⟨rfl, v5, _, S5⟩, hbw4.trans hb5⟩
        · rw [decide_eq_false g3] at hpp
          have HU2 := HU
          rw [if_neg (by decide), if_neg (fun g => g3 g.2), if_pos rfl] at HU2
          have hER := escT_range (s.extract pos s.size)
          have hq : Aside0 (utf_Escape.f s pos = some ((escT (s.extract pos s.size)).1, (pos : Int) + (escT (s.extract pos s.size)).2.1, (escT (s.extract pos s.size)).2.2)) := ⟨by
            unfold utf_Escape.f
            rw [if_pos (by omega), if_neg (by omega), Int.toNat_natCast]⟩
          have hes : (s.extract pos s.size).size = s.size - pos := by rw [ByteArray.size_extract]; omega
          rw [hes] at hER
          obtain ⟨q1, e1⟩ : ∃ x, x = (escT (s.extract pos s.size)).1 := ⟨_, rfl⟩
          obtain ⟨qa, e2⟩ : ∃ x, x = (escT (s.extract pos s.size)).2.1 := ⟨_, rfl⟩
          obtain ⟨q3, e3⟩ : ∃ x, x = (escT (s.extract pos s.size)).2.2 := ⟨_, rfl⟩
          rw [← e1, ← e2, ← e3] at hER hq HU2
          have HQ := hq
          clear e1 e2 e3 hq HU g1 g3 hes
          by_cases g5 : q3 = 0
          · subst g5
            obtain ⟨r0, r1, r2, r3⟩ := hER rfl
            obtain ⟨z, rfl⟩ : ∃ z : Nat, qa = z := ⟨qa.toNat, by omega⟩
            have HE : Hid (pieceZ s f (pos + z) (acc ++ Lib.encodeRune q1) = R) := by
              refine Eq.trans ?_ HU2.out
              rw [if_pos rfl, Int.toNat_natCast]
            clear HU2 hER
            go_wp2_with (first
              | (go_at_call 50; (with_reducible refine hD.mono ?_); rintro e0 w1 ⟨rfl, hb1⟩; have hbw1 := hbw.trans (hb1.mono hbw.size); have S1 := Lib.hid (H.out.below hbw1); have c0a := S1.out.c0; have c3a := S1.out.c3; have f3a := S1.out.fr 3; have hI1 := Lib.hid (Bld.Is.below hI.out hb1))
              | (go_at_call 52; (with_reducible refine (Tryd.strings_HasPrefix (s.extract (pos + 1) s.size) _ _).mono ?_); rintro e0 w2 ⟨rfl, hw2⟩; obtain rfl := hw2.symm; rw [hpp])
              | (go_at_call 53; (with_reducible refine (utf_Escape.calls s pos q1 _ _ _ HQ.out).mono ?_); rintro e0 w2 ⟨rfl, hb2⟩; have hbw2 := hbw1.trans (hb2.mono hbw1.size); have S2 := Lib.hid (H.out.below hbw2); have hI2 := Lib.hid (Bld.Is.below hI1.out hb2))
              | (go_at_call 54; (with_reducible refine (Bld.WriteRune W.heap.size W.heap.size _ q1 (by omega) (by omega) _ hI2.out (by rw [Lib.byteCells_length]; omega) hbw2.size).mono ?_); rintro e0 w3 ⟨rfl, h3, b3, k3⟩))
            case roundEnd =>
              refine ⟨⟨pos + z, f, acc ++ Lib.encodeRune q1, by first | go_num | (congr 1; omega), HE, by omega, by omega, by omega, ?_, ?_, hbw2.trans b3⟩, ?_⟩
              · have h4 := (Lib.runeCells_le q1).2
                rw [Lib.runeCells_length] at h4
                simp only [List.length_append]
                omega
              · show Bld.Is _ _ _ _
                rw [Lib.byteCells_append, Lib.byteCells_encodeRune]
                exact Or.inr h3
              · simp [intOf]; omega
          · have HE : Hid ((q3, pos, false, ([] : List UInt8)) = R) := by
              refine Eq.trans ?_ HU2.out
              rw [if_neg g5]
            clear HU2 hER
            go_wp2_with (first
              | (go_at_call 50; (with_reducible refine hD.mono ?_); rintro e0 w1 ⟨rfl, hb1⟩; have hbw1 := hbw.trans (hb1.mono hbw.size); have S1 := Lib.hid (H.out.below hbw1); have c0a := S1.out.c0; have c3a := S1.out.c3; have f3a := S1.out.fr 3; have hI1 := Lib.hid (Bld.Is.below hI.out hb1))
              | (go_at_call 52; (with_reducible refine (Tryd.strings_HasPrefix (s.extract (pos + 1) s.size) _ _).mono ?_); rintro e0 w2 ⟨rfl, hw2⟩; obtain rfl := hw2.symm; rw [hpp])
              | (go_at_call 53; (with_reducible refine (utf_Escape.calls s pos q1 _ _ _ HQ.out).mono ?_); rintro e0 w2 ⟨rfl, hb2⟩; have hbw2 := hbw1.trans (hb2.mono hbw1.size); have S2 := Lib.hid (H.out.below hbw2); have hI2 := Lib.hid (Bld.Is.below hI1.out hb2))
              | (go_at_call 37; (with_reducible refine (fail_calls _ q3 pos S2.out).mono ?_); rintro e0 w5 ⟨rfl, S5, hb5⟩; have hbwZ := hbw2))
            refine bodyPost_ret (results_none rfl _ _ _) rfl ?_
            rw [← HE.out]
            exact ⟨rfl, Or.inr ⟨g5, S5⟩, (hbw2.mono hDW).trans hb5⟩
      clear hpp
      by_cases g3 : c < 32
      · have HE : Hid (((22 : Int), pos, false, ([] : List UInt8)) = R) := by
          refine Eq.trans ?_ HU.out
          rw [if_neg g1, if_neg (fun g => g2 g.1), if_neg g2, if_pos g3]
        clear HU
        go_wp2_with (first
          | (go_at_call 50; (with_reducible refine hD.mono ?_); rintro e0 w1 ⟨rfl, hb1⟩; have hbw1 := hbw.trans (hb1.mono hbw.size); have S1 := Lib.hid (H.out.below hbw1); have c0a := S1.out.c0; have c3a := S1.out.c3; have f3a := S1.out.fr 3; have hI1 := Lib.hid (Bld.Is.below hI.out hb1))
          | (go_at_call 37; (with_reducible refine (fail_calls _ 22 pos S1.out).mono ?_); rintro e0 w5 ⟨rfl, S5, hb5⟩; have hbwZ := hbw1))
        refine bodyPost_ret (results_none rfl _ _ _) rfl ?_
        rw [← HE.out]
        exact ⟨rfl, Or.inr ⟨by show (22 : Int) ≠ 0; decide, S5⟩, (hbw1.mono hDW).trans hb5⟩
      by_cases g4 : rr = 65533 ∧ nn = 1
      · have HE : Hid (((20 : Int), pos, false, ([] : List UInt8)) = R) := by
          refine Eq.trans ?_ HU.out
          rw [if_neg g1, if_neg (fun g => g2 g.1), if_neg g2, if_neg g3, if_pos g4]
        obtain ⟨g4a, g4b⟩ := g4
        subst g4a g4b
        clear HU
        go_wp2_with (first
          | (go_at_call 50; (with_reducible refine hD.mono ?_); rintro e0 w1 ⟨rfl, hb1⟩; have hbw1 := hbw.trans (hb1.mono hbw.size); have S1 := Lib.hid (H.out.below hbw1); have c0a := S1.out.c0; have c3a := S1.out.c3; have f3a := S1.out.fr 3; have hI1 := Lib.hid (Bld.Is.below hI.out hb1))
          | (go_at_call 37; (with_reducible refine (fail_calls _ 20 pos S1.out).mono ?_); rintro e0 w5 ⟨rfl, S5, hb5⟩; have hbwZ := hbw1))
        refine bodyPost_ret (results_none rfl _ _ _) rfl ?_
        rw [← HE.out]
        exact ⟨rfl, Or.inr ⟨by show (20 : Int) ≠ 0; decide, S5⟩, (hbw1.mono hDW).trans hb5⟩
      have HE : Hid (pieceZ s f (pos + nn) (acc ++ Lib.encodeRune (rr : Int)) = R) := by
        refine Eq.trans ?_ HU.out
        rw [if_neg g1, if_neg (fun g => g2 g.1), if_neg g2, if_neg g3, if_neg g4]
      clear HU
      by_cases g5 : rr = 65533
      · subst g5
        have g6 : ¬ nn = 1 := fun g => g4 ⟨rfl, g⟩
        clear g4
        go_wp2_with (first
          | (go_at_call 50; (with_reducible refine hD.mono ?_); rintro e0 w1 ⟨rfl, hb1⟩; have hbw1 := hbw.trans (hb1.mono hbw.size); have S1 := Lib.hid (H.out.below hbw1); have c0a := S1.out.c0; have c3a := S1.out.c3; have f3a := S1.out.fr 3; have hI1 := Lib.hid (Bld.Is.below hI.out hb1))
          | (go_at_call 54; (with_reducible refine (Bld.WriteRune W.heap.size W.heap.size _ 65533 (by omega) (by omega) _ hI1.out (by rw [Lib.byteCells_length]; omega) hbw1.size).mono ?_); rintro e0 w3 ⟨rfl, h3, b3, k3⟩))
        case roundEnd =>
          refine ⟨⟨pos + nn, f, acc ++ Lib.encodeRune ((65533 : Nat) : Int), by first | go_num | (congr 1; omega), HE, by omega, by omega, by omega, ?_, ?_, hbw1.trans b3⟩, ?_⟩
          · have h4 := (Lib.runeCells_le ((65533 : Nat) : Int)).2
            rw [Lib.runeCells_length] at h4
            simp only [List.length_append]
            omega
          · show Bld.Is _ _ _ _
            rw [Lib.byteCells_append, Lib.byteCells_encodeRune]
            exact Or.inr h3
          · simp [intOf]; omega
      · clear g4
        go_wp2_with (first
          | (go_at_call 50; (with_reducible refine hD.mono ?_); rintro e0 w1 ⟨rfl, hb1⟩; have hbw1 := hbw.trans (hb1.mono hbw.size); have S1 := Lib.hid (H.out.below hbw1); have c0a := S1.out.c0; have c3a := S1.out.c3; have f3a := S1.out.fr 3; have hI1 := Lib.hid (Bld.Is.below hI.out hb1))
          | (go_at_call 54; (with_reducible refine (Bld.WriteRune W.heap.size W.heap.size _ (rr : Int) (by omega) (by omega) _ hI1.out (by rw [Lib.byteCells_length]; omega) hbw1.size).mono ?_); rintro e0 w3 ⟨rfl, h3, b3, k3⟩))
        case roundEnd =>
          refine ⟨⟨pos + nn, f, acc ++ Lib.encodeRune (rr : Int), by first | go_num | (congr 1; omega), HE, by omega, by omega, by omega, ?_, ?_, hbw1.trans b3⟩, ?_⟩
          · have h4 := (Lib.runeCells_le (rr : Int)).2
            rw [Lib.runeCells_length] at h4
            simp only [List.length_append]
            omega
          · show Bld.Is _ _ _ _
            rw [Lib.byteCells_append, Lib.byteCells_encodeRune]
            exact Or.inr h3
          · simp [intOf]; omega
    · have HE : Hid (((21 : Int), s.size, false, ([] : List UInt8)) = R) := by
        refine Eq.trans ?_ HU.out
        cases f with
        | zero => rfl
        | succ f =>
          unfold pieceZ
          rw [if_neg hp]
      clear HU
      go_wp2_with (first
        | (go_at_call 37; (with_reducible refine (fail_calls _ 21 s.size S.out).mono ?_); rintro e0 w5 ⟨rfl, S5, hb5⟩; have hbwZ := hbw))
      go_end0
      rw [← HE.out]
      exact ⟨rfl, Or.inr ⟨by show (21 : Int) ≠ 0; decide, S5⟩, (hbw.mono hDW).trans hb5⟩

end Go.Proofs.YthlmhnlfcnpocaaDoor.U

namespace Go.Proofs.YthlmhnlfcnpocaaDoor.U
open Go.RowKit Go.Proofs.YthlmhnlfcnpocaaDoorW.PrintWords
set_option linter.unusedSimpArgs false

set_option maxHeartbeats 16000000 in
set_option maxRecDepth 100000 in
theorem piece_next {B b : Nat} {s : ByteArray} {toks : List Tok} {op : List Int} {vt vo : Value} (W : World) (i : Nat) (hi : i < s.size) (hs : s.size ≤ 1073741824) (hop : op ≠ []) (ht : toks.length ≤ i) (hol : op.length ≤ i) (h : Sc B b s i toks op 0 0 vt vo W) (hT : Tabs W) :
    Calls Tryd.prog 32 #[.pointer (some ⟨b, 0, none⟩), .int .i64 9, .int .i64 8] W fun r w' => r = .returned (.tuple #[]) ∧ PieceEnd B b s i toks op vt vo 9 8 op.dropLast op (pieceZ s s.size (i + 1) []) w' ∧ Below B W w' := by
  obtain ⟨R, hR⟩ : ∃ R, pieceZ s s.size (i + 1) [] = R := ⟨_, rfl⟩
  rw [hR]
  have HR := Lib.hid hR
  have c1 := h.c1
  have c0 := h.c0
  have hlow := h.low
  have hlt := h.lt
  obtain ⟨m, hm⟩ : ∃ m, op.length = m + 1 := ⟨op.length - 1, by have := List.length_pos_iff.2 hop; omega⟩
  obtain ⟨A, cp, rfl⟩ := own_slice h.opn
  have hcap : op.length ≤ cp := own_le h.opn
  rw [hm] at h hcap ⊢
  have H := Lib.hid h
  have HT := Lib.hid hT
  have hDW : B ≤ W.heap.size := Nat.le_trans hlow (Nat.le_of_lt hlt)
  clear h hR hT
  go_enter Tryd.func32, Tryd.ntmps32
  go_wp2
  clear c1 c0
  go_loopw [7] (fun x wr => ∃ (pos f : Nat) (acc : List UInt8), x = .int .i64 pos ∧ Hid (pieceZ s f pos acc = R) ∧ s.size ≤ pos + f ∧ i + 1 ≤ pos ∧ pos ≤ s.size ∧ acc.length ≤ 4 * pos ∧ Hid (Bld.Is W.heap.size W.heap.size (Lib.byteCells acc) wr) ∧ Below W.heap.size W wr) (fun x _ => s.size - (intOf x).toNat)
  case atStart => exact ⟨i + 1, s.size, [], by go_num, HR, by omega, Nat.le_refl _, by omega, by simp, Lib.fresh_isBuilder 76 5 W, (Below.refl _ W).alloc (Nat.le_refl _) _⟩
  case round =>
    clear HR
    obtain ⟨pos, f, acc, rfl, HU, hf, hip, hpl, hal, hI, hbw⟩ := hrel
    have S : Hid (Sc B b s i toks op 0 0 vt (.slice A (m + 1) cp) wr) := H.out.below hbw
    have c0 := S.out.c0
    by_cases hp : pos < s.size
    · obtain ⟨f, rfl⟩ : ∃ g, f = g + 1 := ⟨f - 1, by omega⟩
      have hTr : Tabs wr := HT.out.below hbw
      have hD := dec_calls s pos hp wr hTr
      clear hTr
      have hwd := Utf.at_width s pos hp
      have hrr := Utf.decode_range s pos
      have hpp := paren_prefix s pos hp
      rw [pieceZ.eq_def] at HU
      simp only at HU
      rw [if_pos hp] at HU
      obtain ⟨rr, hr⟩ : ∃ x, x = (Utf8.decode s pos).1 := ⟨_, rfl⟩
      obtain ⟨nn, hn⟩ : ∃ x, x = (Utf8.decode s pos).2 := ⟨_, rfl⟩
      rw [← hr, ← hn] at HU hD
      rw [← hn] at hwd
      rw [← hr] at hrr
      clear hr hn
      have hx := bt_at s (pos : Int) hp
      have hcr := bt_range s (pos : Int)
      obtain ⟨c, hc⟩ : ∃ c, bt s (pos : Int) = c := ⟨_, rfl⟩
      rw [hc] at HU hx hcr
      clear hc
      have hx' : ((s[pos]'hp).toNat : Int) = c := hx
      clear hx
      by_cases g1 : c = 34
      · subst g1
        have HE : Hid (((0 : Int), pos + 1, true, acc) = R) := by
          refine Eq.trans ?_ HU.out
          rw [if_pos rfl]
        clear HU hpp
        go_wp2_with (first
          | (go_at_call 50; (with_reducible refine hD.mono ?_); rintro e0 w1 ⟨rfl, hb1⟩; have hbw1 := hbw.trans (hb1.mono hbw.size); have S1 := Lib.hid (H.out.below hbw1); have c0a := S1.out.c0; have c3a := S1.out.c3; have f3a := S1.out.fr 3; have hI1 := Lib.hid (Bld.Is.below hI.out hb1)))
        go_region
        all_goals
          have S6 : Hid (Sc B b s i toks op.dropLast 0 0 vt (.slice A m cp) ((w1.setCell ⟨b, 3, none⟩ (.slice A m cp)).drew)) := by
            have h1 := S1.out.opn
            rw [hm] at h1
            have h2 := own_take h1 (Nat.le_succ m)
            have hl : op.dropLast.length = m := by rw [List.length_dropLast, hm]; rfl
            have he : (nums .i64 op).take (m * 1) = nums .i64 op.dropLast := by
              rw [List.dropLast_eq_take, hm, Nat.mul_one]
              simp [nums, List.map_take]
            rw [he] at h2
            exact (Sc.opens (op1 := op.dropLast) S1.out (W1 := w1) (v1 := .slice A m cp) (by rw [hl]; exact h2) (World.grownBy.refl _ _)).below (Below.refl _ _).drew
          have hI6 : Hid (Bld.Is W.heap.size W.heap.size (Lib.byteCells acc) ((w1.setCell ⟨b, 3, none⟩ (.slice A m cp)).drew)) := Bld.Is.apart hI1.out (fun k cs t hk h1 h2 => Sc.apartO (v1 := .slice A m cp) S1.out (World.grownBy.refl _ _) k cs t hk h1 h2)
          have hbw6 : Below B W ((w1.setCell ⟨b, 3, none⟩ (.slice A m cp)).drew) := ((hbw1.mono hDW).setCell (p := ⟨b, 3, none⟩) hlow _).drew
          generalize (w1.setCell ⟨b, 3, none⟩ (.slice A m cp)).drew = w6 at S6 hI6 hbw6 ⊢
          clear c0a c3a f3a
          go_wp2_with (first
            | (go_at_call 51; (with_reducible refine (Bld.StringK W.heap.size W.heap.size acc _ hI6.out hbw6.size).mono ?_); rintro e0 w4 ⟨rfl, hb4, hk4⟩; have hbw4 := hbw6.trans (hb4.mono hDW); have S4 := Lib.hid (Sc.others S6.out hk4 (Bld.Is.shape hI6.out)))
            | (go_at_call 36; (with_reducible refine (token_calls _ 9 _ ⟨acc.toArray⟩ S4.out (by omega)).mono ?_); rintro e0 w5 ⟨rfl, v5, S5, hb5⟩))
          refine bodyPost_ret (results_none rfl _ _ _) rfl ?_
          rw [← HE.out]
          exact ⟨rfl, Or.inl ⟨rfl, v5, _, S5⟩, hbw4.trans hb5⟩
      by_cases g2 : c = 92
      · subst g2
        by_cases g3 : pos + 1 < s.size ∧ bt s ((pos + 1 : Nat) : Int) = 40
        · rw [decide_eq_true g3] at hpp
          have HE : Hid (((0 : Int), pos + 2, false, acc) = R) := by
            refine Eq.trans ?_ HU.out
            rw [if_neg (by decide), if_pos ⟨rfl, g3⟩]
          clear HU g3 g1
          go_wp2_with (first
            | (go_at_call 50; (with_reducible refine hD.mono ?_); rintro e0 w1 ⟨rfl, hb1⟩; have hbw1 := hbw.trans (hb1.mono hbw.size); have S1 := Lib.hid (H.out.below hbw1); have c0a := S1.out.c0; have c3a := S1.out.c3; have f3a := S1.out.fr 3; have hI1 := Lib.hid (Bld.Is.below hI.out hb1))
            | (go_at_call 52; (with_reducible refine (Tryd.strings_HasPrefix (s.extract (pos + 1) s.size) _ _).mono ?_); rintro e0 w2 ⟨rfl, hw2⟩; obtain rfl := hw2.symm; rw [hpp])
            | (go_at_call 51; (with_reducible refine (Bld.StringK W.heap.size W.heap.size acc _ hI1.out hbw1.size).mono ?_); rintro e0 w4 ⟨rfl, hb4, hk4⟩; have hbw4 := hbw1.trans hb4; have S4 := Lib.hid (H.out.below hbw4))
            | (go_at_call 36; (with_reducible refine (token_calls _ 8 _ ⟨acc.toArray⟩ S4.out (by omega)).mono ?_); rintro e0 w5 ⟨rfl, v5, S5, hb5⟩))
          refine bodyPost_ret (results_none rfl _ _ _) rfl ?_
          rw [← HE.out]
          exact ⟨rfl, Or.inl ⟨rfl, v5, _, S5⟩, (hbw4.mono hDW).trans hb5⟩
        · rw [decide_eq_false g3] at hpp
          have HU2 := HU
          rw [if_neg (by decide), if_neg (fun g => g3 g.2), if_pos rfl] at HU2
          have hER := escT_range (s.extract pos s.size)
          have hq : Aside0 (utf_Escape.f s pos = some ((escT (s.extract pos s.size)).1, (pos : Int) + (escT (s.extract pos s.size)).2.1, (escT (s.extract pos s.size)).2.2)) := ⟨by
            unfold utf_Escape.f
            rw [if_pos (by omega), if_neg (by omega), Int.toNat_natCast]⟩
          have hes : (s.extract pos s.size).size = s.size - pos := by rw [ByteArray.size_extract]; omega
          rw [hes] at hER
          obtain ⟨q1, e1⟩ : ∃ x, x = (escT (s.extract pos s.size)).1 := ⟨_, rfl⟩
          obtain ⟨qa, e2⟩ : ∃ x, x = (escT (s.extract pos s.size)).2.1 := ⟨_, rfl⟩
          obtain ⟨q3, e3⟩ : ∃ x, x = (escT (s.extract pos s.size)).2.2 := ⟨_, rfl⟩
          rw [← e1, ← e2, ← e3] at hER hq HU2
          have HQ := hq
          clear e1 e2 e3 hq HU g1 g3 hes
          by_cases g5 : q3 = 0
          · subst g5
            obtain ⟨r0, r1, r2, r3⟩ := hER rfl
            obtain ⟨z, rfl⟩ : ∃ z : Nat, qa = z := ⟨qa.toNat, by omega⟩
            have HE : Hid (pieceZ s f (pos + z) (acc ++ Lib.encodeRune q1) = R) := by
              refine Eq.trans ?_ HU2.out
              rw [if_pos rfl, Int.toNat_natCast]
            clear HU2 hER
            go_wp2_with (first
              | (go_at_call 50; (with_reducible refine hD.mono ?_); rintro e0 w1 ⟨rfl, hb1⟩; have hbw1 := hbw.trans (hb1.mono hbw.size); have S1 := Lib.hid (H.out.below hbw1); have c0a := S1.out.c0; have c3a := S1.out.c3; have f3a := S1.out.fr 3; have hI1 := Lib.hid (Bld.Is.below hI.out hb1))
              | (go_at_call 52; (with_reducible refine (Tryd.strings_HasPrefix (s.extract (pos + 1) s.size) _ _).mono ?_); rintro e0 w2 ⟨rfl, hw2⟩; obtain rfl := hw2.symm; rw [hpp])
              | (go_at_call 53; (with_reducible refine (utf_Escape.calls s pos q1 _ _ _ HQ.out).mono ?_); rintro e0 w2 ⟨rfl, hb2⟩; have hbw2 := hbw1.trans (hb2.mono hbw1.size); have S2 := Lib.hid (H.out.below hbw2); have hI2 := Lib.hid (Bld.Is.below hI1.out hb2))
              | (go_at_call 54; (with_reducible refine (Bld.WriteRune W.heap.size W.heap.size _ q1 (by omega) (by omega) _ hI2.out (by rw [Lib.byteCells_length]; omega) hbw2.size).mono ?_); rintro e0 w3 ⟨rfl, h3, b3, k3⟩))
            case roundEnd =>
              refine ⟨⟨pos + z, f, acc ++ Lib.encodeRune q1, by first | go_num | (congr 1; omega), HE, by omega, by omega, by omega, ?_, ?_, hbw2.trans b3⟩, ?_⟩
              · have h4 := (Lib.runeCells_le q1).2
                rw [Lib.runeCells_length] at h4
                simp only [List.length_append]
                omega
              · show Bld.Is _ _ _ _
                rw [Lib.byteCells_append, Lib.byteCells_encodeRune]
                exact Or.inr h3
              · simp [intOf]; omega
          · have HE : Hid ((q3, pos, false, ([] : List UInt8)) = R) := by
              refine Eq.trans ?_ HU2.out
              rw [if_neg g5]
            clear HU2 hER
            go_wp2_with (first
              | (go_at_call 50; (with_reducible refine hD.mono ?_); rintro e0 w1 ⟨rfl, hb1⟩; have hbw1 := hbw.trans (hb1.mono hbw.size); have S1 := Lib.hid (H.out.below hbw1); have c0a := S1.out.c0; have c3a := S1.out.c3; have f3a := S1.out.fr 3; have hI1 := Lib.hid (Bld.Is.below hI.out hb1))
              | (go_at_call 52; (with_reducible refine (Tryd.strings_HasPrefix (s.extract (pos + 1) s.size) _ _).mono ?_); rintro e0 w2 ⟨rfl, hw2⟩; obtain rfl := hw2.symm; rw [hpp])
              | (go_at_call 53; (with_reducible refine (utf_Escape.calls s pos q1 _ _ _ HQ.out).mono ?_); rintro e0 w2 ⟨rfl, hb2⟩; have hbw2 := hbw1.trans (hb2.mono hbw1.size); have S2 := Lib.hid (H.out.below hbw2); have hI2 := Lib.hid (Bld.Is.below hI1.out hb2))
              | (go_at_call 37; (with_reducible refine (fail_calls _ q3 pos S2.out).mono ?_); rintro e0 w5 ⟨rfl, S5, hb5⟩; have hbwZ := hbw2))
            refine bodyPost_ret (results_none rfl _ _ _) rfl ?_
            rw [← HE.out]
            exact ⟨rfl, Or.inr ⟨g5, S5⟩, (hbw2.mono hDW).trans hb5⟩
      clear hpp
      by_cases g3 : c < 32
      · have HE : Hid (((22 : Int), pos, false, ([] : List UInt8)) = R) := by
          refine Eq.trans ?_ HU.out
          rw [if_neg g1, if_neg (fun g => g2 g.1), if_neg g2, if_pos g3]
        clear HU
        go_wp2_with (first
          | (go_at_call 50; (with_reducible refine hD.mono ?_); rintro e0 w1 ⟨rfl, hb1⟩; have hbw1 := hbw.trans (hb1.mono hbw.size); have S1 := Lib.hid (H.out.below hbw1); have c0a := S1.out.c0; have c3a := S1.out.c3; have f3a := S1.out.fr 3; have hI1 := Lib.hid (Bld.Is.below hI.out hb1))
          | (go_at_call 37; (with_reducible refine (fail_calls _ 22 pos S1.out).mono ?_); rintro e0 w5 ⟨rfl, S5, hb5⟩; have hbwZ := hbw1))
        refine bodyPost_ret (results_none rfl _ _ _) rfl ?_
        rw [← HE.out]
        exact ⟨rfl, Or.inr ⟨by show (22 : Int) ≠ 0; decide, S5⟩, (hbw1.mono hDW).trans hb5⟩
      by_cases g4 : rr = 65533 ∧ nn = 1
      · have HE : Hid (((20 : Int), pos, false, ([] : List UInt8)) = R) := by
          refine Eq.trans ?_ HU.out
          rw [if_neg g1, if_neg (fun g => g2 g.1), if_neg g2, if_neg g3, if_pos g4]
        obtain ⟨g4a, g4b⟩ := g4
        subst g4a g4b
        clear HU
        go_wp2_with (first
          | (go_at_call 50; (with_reducible refine hD.mono ?_); rintro e0 w1 ⟨rfl, hb1⟩; have hbw1 := hbw.trans (hb1.mono hbw.size); have S1 := Lib.hid (H.out.below hbw1); have c0a := S1.out.c0; have c3a := S1.out.c3; have f3a := S1.out.fr 3; have hI1 := Lib.hid (Bld.Is.below hI.out hb1))
          | (go_at_call 37; (with_reducible refine (fail_calls _ 20 pos S1.out).mono ?_); rintro e0 w5 ⟨rfl, S5, hb5⟩; have hbwZ := hbw1))
        refine bodyPost_ret (results_none rfl _ _ _) rfl ?_
        rw [← HE.out]
        exact ⟨rfl, Or.inr ⟨by show (20 : Int) ≠ 0; decide, S5⟩, (hbw1.mono hDW).trans hb5⟩
      have HE : Hid (pieceZ s f (pos + nn) (acc ++ Lib.encodeRune (rr : Int)) = R) := by
        refine Eq.trans ?_ HU.out
        rw [if_neg g1, if_neg (fun g => g2 g.1), if_neg g2, if_neg g3, if_neg g4]
      clear HU
      by_cases g5 : rr = 65533
      · subst g5
        have g6 : ¬ nn = 1 := fun g => g4 ⟨rfl, g⟩
        clear g4
        go_wp2_with (first
          | (go_at_call 50; (with_reducible refine hD.mono ?_); rintro e0 w1 ⟨rfl, hb1⟩; have hbw1 := hbw.trans (hb1.mono hbw.size); have S1 := Lib.hid (H.out.below hbw1); have c0a := S1.out.c0; have c3a := S1.out.c3; have f3a := S1.out.fr 3; have hI1 := Lib.hid (Bld.Is.below hI.out hb1))
          | (go_at_call 54; (with_reducible refine (Bld.WriteRune W.heap.size W.heap.size _ 65533 (by omega) (by omega) _ hI1.out (by rw [Lib.byteCells_length]; omega) hbw1.size).mono ?_); rintro e0 w3 ⟨rfl, h3, b3, k3⟩))
        case roundEnd =>
          refine ⟨⟨pos + nn, f, acc ++ Lib.encodeRune ((65533 : Nat) : Int), by first | go_num | (congr 1; omega), HE, by omega, by omega, by omega, ?_, ?_, hbw1.trans b3⟩, ?_⟩
          · have h4 := (Lib.runeCells_le ((65533 : Nat) : Int)).2
            rw [Lib.runeCells_length] at h4
            simp only [List.length_append]
            omega
          · show Bld.Is _ _ _ _
            rw [Lib.byteCells_append, Lib.byteCells_encodeRune]
            exact Or.inr h3
          · simp [intOf]; omega
      · clear g4
        go_wp2_with (first
          | (go_at_call 50; (with_reducible refine hD.mono ?_); rintro e0 w1 ⟨rfl, hb1⟩; have hbw1 := hbw.trans (hb1.mono hbw.size); have S1 := Lib.hid (H.out.below hbw1); have c0a := S1.out.c0; have c3a := S1.out.c3; have f3a := S1.out.fr 3; have hI1 := Lib.hid (Bld.Is.below hI.out hb1))
          | (go_at_call 54; (with_reducible refine (Bld.WriteRune W.heap.size W.heap.size _ (rr : Int) (by omega) (by omega) _ hI1.out (by rw [Lib.byteCells_length]; omega) hbw1.size).mono ?_); rintro e0 w3 ⟨rfl, h3, b3, k3⟩))
        case roundEnd =>
          refine ⟨⟨pos + nn, f, acc ++ Lib.encodeRune (rr : Int), by first | go_num | (congr 1; omega), HE, by omega, by omega, by omega, ?_, ?_, hbw1.trans b3⟩, ?_⟩
          · have h4 := (Lib.runeCells_le (rr : Int)).2
            rw [Lib.runeCells_length] at h4
            simp only [List.length_append]
            omega
          · show Bld.Is _ _ _ _
            rw [Lib.byteCells_append, Lib.byteCells_encodeRune]
            exact Or.inr h3
          · simp [intOf]; omega
    · have HE : Hid (((21 : Int), s.size, false, ([] : List UInt8)) = R) := by
        refine Eq.trans ?_ HU.out
        cases f with
        | zero => rfl
        | succ f =>
          unfold pieceZ
          rw [if_neg hp]
      clear HU
      go_wp2_with (first
        | (go_at_call 37; (with_reducible refine (fail_calls _ 21 s.size S.out).mono ?_); rintro e0 w5 ⟨rfl, S5, hb5⟩; have hbwZ := hbw))
      go_end0
      rw [← HE.out]
      exact ⟨rfl, Or.inr ⟨by show (21 : Int) ≠ 0; decide, S5⟩, (hbw.mono hDW).trans hb5⟩

end Go.Proofs.YthlmhnlfcnpocaaDoor.U

namespace Go.Proofs.YthlmhnlfcnpocaaDoor.U
open Go.RowKit Go.Proofs.YthlmhnlfcnpocaaDoorW.PrintWords

/-- what one token leaves: the error, the place (of the fault, or behind the token), the kind, what it says, what is open -/
structure OneR where
  e : Int
  pos : Nat
  kind : Int
  text : ByteArray
  op : List Int
def OneEnd (B b : Nat) (s : ByteArray) (i : Nat) (toks : List Tok) (op : List Int) (r : OneR) (w' : World) : Prop :=
  (r.e = 0 ∧ ∃ vt vo, Sc B b s r.pos (toks ++ [⟨r.kind, i, r.pos, r.text⟩]) r.op 0 0 vt vo w') ∨ (r.e ≠ 0 ∧ ∃ vt vo, Sc B b s i toks op r.e r.pos vt vo w')
/-- a piece as a token -/
def pieceR (last more : Int) (opL opM : List Int) (r : Int × Nat × Bool × List UInt8) : OneR := ⟨r.1, r.2.1, if r.2.2.1 = true then last else more, ⟨r.2.2.2.toArray⟩, if r.2.2.1 = true then opL else opM⟩
theorem PieceEnd.one {B b : Nat} {s : ByteArray} {i : Nat} {toks : List Tok} {op : List Int} {vt vo : Value} {last more : Int} {opL opM : List Int} {r : Int × Nat × Bool × List UInt8} {w' : World} (h : PieceEnd B b s i toks op vt vo last more opL opM r w') : OneEnd B b s i toks op (pieceR last more opL opM r) w' := by
  rcases h with ⟨h1, vt', vo', h2⟩ | ⟨h1, h2⟩
  · exact Or.inl ⟨h1, vt', vo', h2⟩
  · exact Or.inr ⟨h1, vt, vo, h2⟩

theorem Sc.of_heap {B b : Nat} {s : ByteArray} {at_ : Int} {toks : List Tok} {op : List Int} {e pl : Int} {vt vo : Value} {W W1 : World} (he : W1.heap = W.heap) (h : Sc B b s at_ toks op e pl vt vo W) : Sc B b s at_ toks op e pl vt vo W1 where
  blk := by rw [he]; exact h.blk
  tok := own_move h.tok fun k _ => by rw [he]
  opn := own_move h.opn fun k _ => by rw [he]
  low := h.low

end Go.Proofs.YthlmhnlfcnpocaaDoor.U
