/- The contract of utf.Escape in the printer's form: the rune of the escape that begins at a place, and the place behind it. -/
import Derived.Test.YthlmhnlfcnpocaaDoorUL0x0
import Derived.Test.YthlmhnlfcnpocaaDoorENumbered
namespace Go.Proofs.YthlmhnlfcnpocaaDoor.U
open Go.RowKit Go.Proofs.YthlmhnlfcnpocaaDoorW.PrintWords

/-- the rune of an escape of one sign; -1: it is none -/
def shortZ (c : Int) : Int := if c = 98 then 8 else if c = 102 then 12 else if c = 110 then 10 else if c = 114 then 13 else if c = 116 then 9 else if c = 34 then 34 else if c = 92 then 92 else if c = 47 then 47 else -1

theorem short_eq (c : Int) : utf_short.f c = some (shortZ c) := by
  unfold utf_short.f shortZ
  by_cases h : c = 34 ∨ c = 92 ∨ c = 47
  · rcases h with h | h | h <;> (rw [h]; first | decide | kernel_rfl)
  · have h1 : ¬ c = 34 := fun g => h (Or.inl g)
    have h2 : ¬ c = 92 := fun g => h (Or.inr (Or.inl g))
    have h3 : ¬ c = 47 := fun g => h (Or.inr (Or.inr g))
    rw [if_neg h1, if_neg h2, if_neg h3, if_neg h1, if_neg h2, if_neg h3]
    by_cases a : c = 98
    · rw [if_pos a, if_pos a]
    rw [if_neg a, if_neg a]
    by_cases a : c = 102
    · rw [if_pos a, if_pos a]
    rw [if_neg a, if_neg a]
    by_cases a : c = 110
    · rw [if_pos a, if_pos a]
    rw [if_neg a, if_neg a]
    by_cases a : c = 114
    · rw [if_pos a, if_pos a]
    rw [if_neg a, if_neg a]
    by_cases a : c = 116
    · rw [if_pos a, if_pos a]
    rw [if_neg a, if_neg a]

theorem shortZ_range (c : Int) : -1 ≤ shortZ c ∧ shortZ c ≤ 92 := by
  unfold shortZ
  repeat' split
  all_goals omega

theorem numZ_range (s : ByteArray) : -1 ≤ numZ s ∧ numZ s < 65536 := by
  unfold numZ
  split
  · omega
  · have := accZ_range s 4 (by
      intro j hj
      rcases (show j = 0 ∨ j = 1 ∨ j = 2 ∨ j = 3 by omega) with rfl | rfl | rfl | rfl
      · show 0 ≤ digitZ (bt s 2)
        omega
      · show 0 ≤ digitZ (bt s 3)
        omega
      · show 0 ≤ digitZ (bt s 4)
        omega
      · show 0 ≤ digitZ (bt s 5)
        omega)
    have e : (16 : Int) ^ 4 = 65536 := by decide
    rw [e] at this
    omega
theorem numberedZ_range (s : ByteArray) : -1 ≤ numberedZ s ∧ numberedZ s < 65536 ∧ (0 ≤ numberedZ s → 6 ≤ s.size) := by
  unfold numberedZ
  split
  · have := numZ_range s
    refine ⟨this.1, this.2, fun _ => by omega⟩
  · omega

theorem low_eq (n : Int) : utf_isLow.f n = some (decide (56320 ≤ n ∧ n ≤ 57343)) := by
  unfold utf_isLow.f
  by_cases h : n ≥ 56320
  · rw [if_pos h]
    congr 1
    exact decide_eq_decide.2 ⟨fun g => ⟨h, g⟩, fun g => g.2⟩
  · rw [if_neg h]
    congr 1
    exact (decide_eq_false (fun g => h g.1)).symm
theorem high_eq (n : Int) : utf_isHigh.f n = some (decide (55296 ≤ n ∧ n ≤ 56319)) := by
  unfold utf_isHigh.f
  by_cases h : n ≥ 55296
  · rw [if_pos h]
    congr 1
    exact decide_eq_decide.2 ⟨fun g => ⟨h, g⟩, fun g => g.2⟩
  · rw [if_neg h]
    congr 1
    exact (decide_eq_false (fun g => h g.1)).symm

/-- the rune of an escape, how many bytes it has, and the error: from the numbers, the signs and the text's size -/
def escV (n m c0 sh : Int) (z : Nat) : Int × Int × Int :=
  if n < 0 then
    if 2 ≤ z ∧ c0 = 92 ∧ 0 ≤ sh then (sh, 2, 0) else (0, 0, 23)
  else if 56320 ≤ n ∧ n ≤ 57343 then (0, 0, 24)
  else if ¬ (55296 ≤ n ∧ n ≤ 56319) then (n, 6, 0)
  else if 56320 ≤ m ∧ m ≤ 57343 then (65536 + (n - 55296) * 1024 + (m - 56320), 12, 0)
  else (0, 0, 24)
/-- the escape that a text begins with -/
def escT (t : ByteArray) : Int × Int × Int := escV (numberedZ t) (numberedZ (t.extract 6 t.size)) (bt t 0) (shortZ (bt t 1)) t.size

/-- what an answer is -/
def escE (p : Nat) (q : Int × Int × Int) : Ending := .returned (.tuple #[.int .i32 q.1, .int .i64 (p + q.2.1), .int .i64 q.2.2])

set_option maxHeartbeats 8000000 in
set_option maxRecDepth 100000 in
theorem escape_walk (s t u : ByteArray) (p z : Nat) (n m c0 c1 sh : Int) (hp : p < s.size) (hs : s.size ≤ 1152921504606846976) (ht : s.extract p s.size = t) (hu : t.extract 6 z = u) (hts : t.size = z) (hz : z + p = s.size)
    (HN : Aside0 (utf_numbered.f t = some n)) (HM : Aside0 (utf_numbered.f u = some m)) (hn0 : -1 ≤ n) (hn1 : n < 65536) (hn2 : 0 ≤ n → 6 ≤ z) (hm0 : -1 ≤ m) (hm1 : m < 65536)
    (b0 : ∀ h : 0 < t.size, ((t[0]'h).toNat : Int) = c0) (b1 : ∀ h : 1 < t.size, ((t[1]'h).toNat : Int) = c1) (HS : Aside0 (utf_short.f c1 = some sh)) (hsh0 : -1 ≤ sh) (hsh1 : sh ≤ 92) (w : World) :
    Calls Tryd.prog 53 #[.string s, .int .i64 p] w fun e w' => e = escE p (escV n m c0 sh z) ∧ Below w.heap.size w w' := by
  by_cases g1 : n < 0
  · clear HM hn2 hm0 hm1 hu
    by_cases g2 : 2 ≤ z
    · by_cases g3 : c0 = 92
      · by_cases g4 : 0 ≤ sh
        · have HE : Hid (escV n m c0 sh z = (sh, 2, 0)) := by
            show escV n m c0 sh z = _
            unfold escV
            rw [if_pos g1, if_pos ⟨g2, g3, g4⟩]
          go_enter Tryd.func53, Tryd.ntmps53
          go_wp2_with (first
            | (go_at_call 62; (with_reducible refine (utf_numbered.calls t n _ HN.out).mono ?_); rintro e w1 ⟨rfl, hb1⟩)
            | (go_at_call 62; (with_reducible refine (utf_numbered.calls u m _ HM.out).mono ?_); rintro e w2 ⟨rfl, hb2⟩)
            | (go_at_call 63; (with_reducible refine (utf_short.calls c1 sh _ HS.out).mono ?_); rintro e w' ⟨rfl, ⟨nd, rfl⟩⟩)
            | (go_at_call 64; (with_reducible refine (utf_isLow.calls n _ _ HL.out).mono ?_); rintro e w' ⟨rfl, ⟨nd, rfl⟩⟩)
            | (go_at_call 64; (with_reducible refine (utf_isLow.calls m _ _ HL2.out).mono ?_); rintro e w' ⟨rfl, ⟨nd, rfl⟩⟩)
            | (go_at_call 65; (with_reducible refine (utf_isHigh.calls n _ _ HH.out).mono ?_); rintro e w' ⟨rfl, ⟨nd, rfl⟩⟩))
          all_goals go_ret3
          all_goals
            refine ⟨by first | exact congrArg (escE p) HE.out.symm | (rw [HE.out]; simp [escE]), ?_⟩
            first
              | exact hb1
              | (apply pw_below_drewN; exact hb1)
              | exact (pw_below_drewN hb1 _).trans (hb2.mono hb1.size)
              | (apply pw_below_drewN; exact (pw_below_drewN hb1 _).trans (hb2.mono hb1.size))
        · have HE : Hid (escV n m c0 sh z = (0, 0, 23)) := by
            show escV n m c0 sh z = _
            unfold escV
            rw [if_pos g1, if_neg (fun h => g4 h.2.2)]
          go_enter Tryd.func53, Tryd.ntmps53
          go_wp2_with (first
            | (go_at_call 62; (with_reducible refine (utf_numbered.calls t n _ HN.out).mono ?_); rintro e w1 ⟨rfl, hb1⟩)
            | (go_at_call 62; (with_reducible refine (utf_numbered.calls u m _ HM.out).mono ?_); rintro e w2 ⟨rfl, hb2⟩)
            | (go_at_call 63; (with_reducible refine (utf_short.calls c1 sh _ HS.out).mono ?_); rintro e w' ⟨rfl, ⟨nd, rfl⟩⟩)
            | (go_at_call 64; (with_reducible refine (utf_isLow.calls n _ _ HL.out).mono ?_); rintro e w' ⟨rfl, ⟨nd, rfl⟩⟩)
            | (go_at_call 64; (with_reducible refine (utf_isLow.calls m _ _ HL2.out).mono ?_); rintro e w' ⟨rfl, ⟨nd, rfl⟩⟩)
            | (go_at_call 65; (with_reducible refine (utf_isHigh.calls n _ _ HH.out).mono ?_); rintro e w' ⟨rfl, ⟨nd, rfl⟩⟩))
          all_goals go_ret3
          all_goals
            refine ⟨by first | exact congrArg (escE p) HE.out.symm | (rw [HE.out]; simp [escE]), ?_⟩
            first
              | exact hb1
              | (apply pw_below_drewN; exact hb1)
              | exact (pw_below_drewN hb1 _).trans (hb2.mono hb1.size)
              | (apply pw_below_drewN; exact (pw_below_drewN hb1 _).trans (hb2.mono hb1.size))
      · have HE : Hid (escV n m c0 sh z = (0, 0, 23)) := by
          show escV n m c0 sh z = _
          unfold escV
          rw [if_pos g1, if_neg (fun h => g3 h.2.1)]
        go_enter Tryd.func53, Tryd.ntmps53
        go_wp2_with (first
          | (go_at_call 62; (with_reducible refine (utf_numbered.calls t n _ HN.out).mono ?_); rintro e w1 ⟨rfl, hb1⟩)
          | (go_at_call 62; (with_reducible refine (utf_numbered.calls u m _ HM.out).mono ?_); rintro e w2 ⟨rfl, hb2⟩)
          | (go_at_call 63; (with_reducible refine (utf_short.calls c1 sh _ HS.out).mono ?_); rintro e w' ⟨rfl, ⟨nd, rfl⟩⟩)
          | (go_at_call 64; (with_reducible refine (utf_isLow.calls n _ _ HL.out).mono ?_); rintro e w' ⟨rfl, ⟨nd, rfl⟩⟩)
          | (go_at_call 64; (with_reducible refine (utf_isLow.calls m _ _ HL2.out).mono ?_); rintro e w' ⟨rfl, ⟨nd, rfl⟩⟩)
          | (go_at_call 65; (with_reducible refine (utf_isHigh.calls n _ _ HH.out).mono ?_); rintro e w' ⟨rfl, ⟨nd, rfl⟩⟩))
        all_goals go_ret3
        all_goals
          refine ⟨by first | exact congrArg (escE p) HE.out.symm | (rw [HE.out]; simp [escE]), ?_⟩
          first
            | exact hb1
            | (apply pw_below_drewN; exact hb1)
            | exact (pw_below_drewN hb1 _).trans (hb2.mono hb1.size)
            | (apply pw_below_drewN; exact (pw_below_drewN hb1 _).trans (hb2.mono hb1.size))
    · have HE : Hid (escV n m c0 sh z = (0, 0, 23)) := by
        show escV n m c0 sh z = _
        unfold escV
        rw [if_pos g1, if_neg (fun h => g2 h.1)]
      clear b0 b1 HS
      go_enter Tryd.func53, Tryd.ntmps53
      go_wp2_with (first
        | (go_at_call 62; (with_reducible refine (utf_numbered.calls t n _ HN.out).mono ?_); rintro e w1 ⟨rfl, hb1⟩)
        | (go_at_call 62; (with_reducible refine (utf_numbered.calls u m _ HM.out).mono ?_); rintro e w2 ⟨rfl, hb2⟩)
        | (go_at_call 63; (with_reducible refine (utf_short.calls c1 sh _ HS.out).mono ?_); rintro e w' ⟨rfl, ⟨nd, rfl⟩⟩)
        | (go_at_call 64; (with_reducible refine (utf_isLow.calls n _ _ HL.out).mono ?_); rintro e w' ⟨rfl, ⟨nd, rfl⟩⟩)
        | (go_at_call 64; (with_reducible refine (utf_isLow.calls m _ _ HL2.out).mono ?_); rintro e w' ⟨rfl, ⟨nd, rfl⟩⟩)
        | (go_at_call 65; (with_reducible refine (utf_isHigh.calls n _ _ HH.out).mono ?_); rintro e w' ⟨rfl, ⟨nd, rfl⟩⟩))
      all_goals go_ret3
      all_goals
        refine ⟨by first | exact congrArg (escE p) HE.out.symm | (rw [HE.out]; simp [escE]), ?_⟩
        first
          | exact hb1
          | (apply pw_below_drewN; exact hb1)
          | exact (pw_below_drewN hb1 _).trans (hb2.mono hb1.size)
          | (apply pw_below_drewN; exact (pw_below_drewN hb1 _).trans (hb2.mono hb1.size))
  · have h6 := hn2 (by omega)
    clear b0 b1 HS hn2
    by_cases g2 : 56320 ≤ n ∧ n ≤ 57343
    · have HE : Hid (escV n m c0 sh z = (0, 0, 24)) := by
        show escV n m c0 sh z = _
        unfold escV
        rw [if_neg g1, if_pos g2]
      have HL : Aside0 (utf_isLow.f n = some true) := ⟨by rw [low_eq, decide_eq_true g2]⟩
      clear g2 HM hu
      go_enter Tryd.func53, Tryd.ntmps53
      go_wp2_with (first
        | (go_at_call 62; (with_reducible refine (utf_numbered.calls t n _ HN.out).mono ?_); rintro e w1 ⟨rfl, hb1⟩)
        | (go_at_call 62; (with_reducible refine (utf_numbered.calls u m _ HM.out).mono ?_); rintro e w2 ⟨rfl, hb2⟩)
        | (go_at_call 63; (with_reducible refine (utf_short.calls c1 sh _ HS.out).mono ?_); rintro e w' ⟨rfl, ⟨nd, rfl⟩⟩)
        | (go_at_call 64; (with_reducible refine (utf_isLow.calls n _ _ HL.out).mono ?_); rintro e w' ⟨rfl, ⟨nd, rfl⟩⟩)
        | (go_at_call 64; (with_reducible refine (utf_isLow.calls m _ _ HL2.out).mono ?_); rintro e w' ⟨rfl, ⟨nd, rfl⟩⟩)
        | (go_at_call 65; (with_reducible refine (utf_isHigh.calls n _ _ HH.out).mono ?_); rintro e w' ⟨rfl, ⟨nd, rfl⟩⟩))
      all_goals go_ret3
      all_goals
        refine ⟨by first | exact congrArg (escE p) HE.out.symm | (rw [HE.out]; simp [escE]), ?_⟩
        first
          | exact hb1
          | (apply pw_below_drewN; exact hb1)
          | exact (pw_below_drewN hb1 _).trans (hb2.mono hb1.size)
          | (apply pw_below_drewN; exact (pw_below_drewN hb1 _).trans (hb2.mono hb1.size))
    · by_cases g3 : 55296 ≤ n ∧ n ≤ 56319
      · by_cases g4 : 56320 ≤ m ∧ m ≤ 57343
        · have HE : Hid (escV n m c0 sh z = (65536 + (n - 55296) * 1024 + (m - 56320), 12, 0)) := by
            show escV n m c0 sh z = _
            unfold escV
            rw [if_neg g1, if_neg g2, if_neg (fun h => h g3), if_pos g4]
          have HL : Aside0 (utf_isLow.f n = some false) := ⟨by rw [low_eq, decide_eq_false g2]⟩
          have HH : Aside0 (utf_isHigh.f n = some true) := ⟨by rw [high_eq, decide_eq_true g3]⟩
          have HL2 : Aside0 (utf_isLow.f m = some true) := ⟨by rw [low_eq, decide_eq_true g4]⟩
          clear g2
          go_enter Tryd.func53, Tryd.ntmps53
          go_wp2_with (first
            | (go_at_call 62; (with_reducible refine (utf_numbered.calls t n _ HN.out).mono ?_); rintro e w1 ⟨rfl, hb1⟩)
            | (go_at_call 62; (with_reducible refine (utf_numbered.calls u m _ HM.out).mono ?_); rintro e w2 ⟨rfl, hb2⟩)
            | (go_at_call 63; (with_reducible refine (utf_short.calls c1 sh _ HS.out).mono ?_); rintro e w' ⟨rfl, ⟨nd, rfl⟩⟩)
            | (go_at_call 64; (with_reducible refine (utf_isLow.calls n _ _ HL.out).mono ?_); rintro e w' ⟨rfl, ⟨nd, rfl⟩⟩)
            | (go_at_call 64; (with_reducible refine (utf_isLow.calls m _ _ HL2.out).mono ?_); rintro e w' ⟨rfl, ⟨nd, rfl⟩⟩)
            | (go_at_call 65; (with_reducible refine (utf_isHigh.calls n _ _ HH.out).mono ?_); rintro e w' ⟨rfl, ⟨nd, rfl⟩⟩))
          all_goals go_ret3
          all_goals
            refine ⟨by first | exact congrArg (escE p) HE.out.symm | (rw [HE.out]; simp [escE]), ?_⟩
            first
              | exact hb1
              | (apply pw_below_drewN; exact hb1)
              | exact (pw_below_drewN hb1 _).trans (hb2.mono hb1.size)
              | (apply pw_below_drewN; exact (pw_below_drewN hb1 _).trans (hb2.mono hb1.size))
        · have HE : Hid (escV n m c0 sh z = (0, 0, 24)) := by
            show escV n m c0 sh z = _
            unfold escV
            rw [if_neg g1, if_neg g2, if_neg (fun h => h g3), if_neg g4]
          have HL : Aside0 (utf_isLow.f n = some false) := ⟨by rw [low_eq, decide_eq_false g2]⟩
          have HH : Aside0 (utf_isHigh.f n = some true) := ⟨by rw [high_eq, decide_eq_true g3]⟩
          have HL2 : Aside0 (utf_isLow.f m = some false) := ⟨by rw [low_eq, decide_eq_false g4]⟩
          clear g2 g4
          go_enter Tryd.func53, Tryd.ntmps53
          go_wp2_with (first
            | (go_at_call 62; (with_reducible refine (utf_numbered.calls t n _ HN.out).mono ?_); rintro e w1 ⟨rfl, hb1⟩)
            | (go_at_call 62; (with_reducible refine (utf_numbered.calls u m _ HM.out).mono ?_); rintro e w2 ⟨rfl, hb2⟩)
            | (go_at_call 63; (with_reducible refine (utf_short.calls c1 sh _ HS.out).mono ?_); rintro e w' ⟨rfl, ⟨nd, rfl⟩⟩)
            | (go_at_call 64; (with_reducible refine (utf_isLow.calls n _ _ HL.out).mono ?_); rintro e w' ⟨rfl, ⟨nd, rfl⟩⟩)
            | (go_at_call 64; (with_reducible refine (utf_isLow.calls m _ _ HL2.out).mono ?_); rintro e w' ⟨rfl, ⟨nd, rfl⟩⟩)
            | (go_at_call 65; (with_reducible refine (utf_isHigh.calls n _ _ HH.out).mono ?_); rintro e w' ⟨rfl, ⟨nd, rfl⟩⟩))
          all_goals go_ret3
          all_goals
            refine ⟨by first | exact congrArg (escE p) HE.out.symm | (rw [HE.out]; simp [escE]), ?_⟩
            first
              | exact hb1
              | (apply pw_below_drewN; exact hb1)
              | exact (pw_below_drewN hb1 _).trans (hb2.mono hb1.size)
              | (apply pw_below_drewN; exact (pw_below_drewN hb1 _).trans (hb2.mono hb1.size))
      · have HE : Hid (escV n m c0 sh z = (n, 6, 0)) := by
          show escV n m c0 sh z = _
          unfold escV
          rw [if_neg g1, if_neg g2, if_pos g3]
        have HL : Aside0 (utf_isLow.f n = some false) := ⟨by rw [low_eq, decide_eq_false g2]⟩
        have HH : Aside0 (utf_isHigh.f n = some false) := ⟨by rw [high_eq, decide_eq_false g3]⟩
        clear g2 g3 HM hu
        go_enter Tryd.func53, Tryd.ntmps53
        go_wp2_with (first
          | (go_at_call 62; (with_reducible refine (utf_numbered.calls t n _ HN.out).mono ?_); rintro e w1 ⟨rfl, hb1⟩)
          | (go_at_call 62; (with_reducible refine (utf_numbered.calls u m _ HM.out).mono ?_); rintro e w2 ⟨rfl, hb2⟩)
          | (go_at_call 63; (with_reducible refine (utf_short.calls c1 sh _ HS.out).mono ?_); rintro e w' ⟨rfl, ⟨nd, rfl⟩⟩)
          | (go_at_call 64; (with_reducible refine (utf_isLow.calls n _ _ HL.out).mono ?_); rintro e w' ⟨rfl, ⟨nd, rfl⟩⟩)
          | (go_at_call 64; (with_reducible refine (utf_isLow.calls m _ _ HL2.out).mono ?_); rintro e w' ⟨rfl, ⟨nd, rfl⟩⟩)
          | (go_at_call 65; (with_reducible refine (utf_isHigh.calls n _ _ HH.out).mono ?_); rintro e w' ⟨rfl, ⟨nd, rfl⟩⟩))
        all_goals go_ret3
        all_goals
          refine ⟨by first | exact congrArg (escE p) HE.out.symm | (rw [HE.out]; simp [escE]), ?_⟩
          first
            | exact hb1
            | (apply pw_below_drewN; exact hb1)
            | exact (pw_below_drewN hb1 _).trans (hb2.mono hb1.size)
            | (apply pw_below_drewN; exact (pw_below_drewN hb1 _).trans (hb2.mono hb1.size))

theorem escape_body (s : ByteArray) (p : Nat) (hp : p < s.size) (hs : s.size ≤ 1152921504606846976) (w : World) :
    Calls Tryd.prog 53 #[.string s, .int .i64 p] w fun e w' => e = escE p (escT (s.extract p s.size)) ∧ Below w.heap.size w w' := by
  have hts : (s.extract p s.size).size = s.size - p := by
    rw [ByteArray.size_extract]
    omega
  have hnr := numberedZ_range (s.extract p s.size)
  have hmr := numberedZ_range ((s.extract p s.size).extract 6 (s.extract p s.size).size)
  have hsr := shortZ_range (bt (s.extract p s.size) 1)
  exact escape_walk s _ _ p (s.extract p s.size).size _ _ _ _ _ hp hs rfl rfl rfl (by omega) ⟨by
    unfold utf_numbered.f
    rw [if_pos (by omega)]⟩ ⟨by
    unfold utf_numbered.f
    rw [if_pos (by rw [ByteArray.size_extract]; omega)]⟩ hnr.1 hnr.2.1 hnr.2.2 hmr.1 hmr.2.1 (fun h => bt_at _ 0 h) (fun h => bt_at _ 1 h) ⟨short_eq _⟩ hsr.1 hsr.2 w

set_option maxHeartbeats 4000000 in
theorem escape_out (s : ByteArray) (a : Int) (h : a < 0 ∨ a ≥ s.size) (w : World) :
    Calls Tryd.prog 53 #[.string s, .int .i64 a] w fun e w' => e = .returned (.tuple #[.int .i32 0, .int .i64 0, .int .i64 2]) ∧ Below w.heap.size w w' := by
  rcases (show a < 0 ∨ (¬ a < 0 ∧ a ≥ s.size) by omega) with h | h
  · go_enter Tryd.func53, Tryd.ntmps53
    go_wp2
    go_ret3
    exact ⟨rfl, Below.refl _ _⟩
  · obtain ⟨h0, h1⟩ := h
    go_enter Tryd.func53, Tryd.ntmps53
    go_wp2
    go_ret3
    exact ⟨rfl, Below.refl _ _⟩

def utf_Escape.f (a0 : ByteArray) (a1 : Int) : Option (Int × Int × Int) :=
  if a0.size ≤ 1152921504606846976 then
    if a1 < 0 ∨ a1 ≥ a0.size then some (0, 0, 2) else some ((escT (a0.extract a1.toNat a0.size)).1, a1 + (escT (a0.extract a1.toNat a0.size)).2.1, (escT (a0.extract a1.toNat a0.size)).2.2)
  else none

theorem utf_Escape.calls (a0 : ByteArray) (a1 : Int) (r1 : Int) (r2 : Int) (r3 : Int) (w : World) (h : utf_Escape.f a0 a1 = some (r1, r2, r3)) :
    Calls Tryd.prog 53 #[.string a0, .int .i64 a1] w fun e w' => e = .returned (.tuple #[.int .i32 r1, .int .i64 r2, .int .i64 r3]) ∧ Below w.heap.size w w' := by
  unfold utf_Escape.f at h
  split at h
  case isFalse => cases h
  rename_i hs
  split at h
  · rename_i hc
    injection h with h
    injection h with e1 h
    injection h with e2 e3
    subst e1 e2 e3
    exact escape_out a0 a1 hc w
  · rename_i hc
    injection h with h
    injection h with e1 h
    injection h with e2 e3
    obtain ⟨p, rfl⟩ : ∃ p : Nat, a1 = p := ⟨a1.toNat, by omega⟩
    subst e1 e2 e3
    exact escape_body a0 p (by omega) hs w

end Go.Proofs.YthlmhnlfcnpocaaDoor.U
