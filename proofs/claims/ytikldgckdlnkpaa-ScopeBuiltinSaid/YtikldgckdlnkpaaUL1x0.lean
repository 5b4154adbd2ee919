-- Written by wip/xprint.py (the kit's printer with hooks) out of the translation; Lean checks it.
import Derived.Test.YtikldgckdlnkpaaU0
import Derived.Test.YtikldgckdlnkpaaTabs
import Derived.Test.YtikldgckdlnkpaaEContains
import Derived.Test.YtikldgckdlnkpaaENamed
import Derived.Test.YtikldgckdlnkpaaUL0x0
import Derived.Test.YtikldgckdlnkpaaUL0x1
namespace Go.Proofs.Ytikldgckdlnkpaa.U
open Go.RowKit Go.Proofs.YtikldgckdlnkpaaW.PrintWords Go.Proofs.YtikldgckdlnkpaaW.PrintLast Go.Proofs.YtikldgckdlnkpaaW.PrintMore
attribute [local go_sem] max2_int min2_int max_two min_two max_three min_three max_four min_four   -- for this text's walks alone
set_option linter.unusedVariables false
set_option linter.unusedSimpArgs false

/-! ### word_Plain: function 9 -/
def word_Plain.f (a0 : ByteArray) : Option (Bool) := (word_Named.f a0).bind fun t106 => (if t106 = true then (if 1 + a0.size ≤ 9223372036854775807 then (if 1 + a0.size + 1 ≤ 9223372036854775807 then ((strings_Contains.f (⟨#[32, 100, 101, 102, 32, 105, 102, 32, 116, 104, 101, 110, 32, 101, 108, 105, 102, 32, 101, 108, 115, 101, 32, 101, 110, 100, 32, 97, 115, 32, 114, 101, 100, 117, 99, 101, 32, 102, 111, 114, 101, 97, 99, 104, 32, 116, 114, 121, 32, 99, 97, 116, 99, 104, 32, 97, 110, 100, 32, 111, 114, 32, 108, 97, 98, 101, 108, 32, 98, 114, 101, 97, 107, 32, 110, 117, 108, 108, 32, 116, 114, 117, 101, 32, 102, 97, 108, 115, 101, 32]⟩ : ByteArray) (((⟨#[32]⟩ : ByteArray) ++ a0) ++ (⟨#[32]⟩ : ByteArray))).bind fun t107 => (some (!t107))) else (none)) else (none)) else (some false))
set_option maxHeartbeats 8000000 in
set_option maxRecDepth 100000 in
theorem word_Plain.calls (a0 : ByteArray) (r : Bool) (w : World) (hT : Tabs w) (h : word_Plain.f a0 = some r) :
    Calls Try.prog 9 #[.string a0] w fun e w' => e = .returned (.bool r) ∧ Drawn0 w w' := by
  have HTab_ := Aside0.mk hT
  clear hT
  have H : ((word_Named.f a0).bind fun t106 => (if t106 = true then (if 1 + a0.size ≤ 9223372036854775807 then (if 1 + a0.size + 1 ≤ 9223372036854775807 then ((strings_Contains.f (⟨#[32, 100, 101, 102, 32, 105, 102, 32, 116, 104, 101, 110, 32, 101, 108, 105, 102, 32, 101, 108, 115, 101, 32, 101, 110, 100, 32, 97, 115, 32, 114, 101, 100, 117, 99, 101, 32, 102, 111, 114, 101, 97, 99, 104, 32, 116, 114, 121, 32, 99, 97, 116, 99, 104, 32, 97, 110, 100, 32, 111, 114, 32, 108, 97, 98, 101, 108, 32, 98, 114, 101, 97, 107, 32, 110, 117, 108, 108, 32, 116, 114, 117, 101, 32, 102, 97, 108, 115, 101, 32]⟩ : ByteArray) (((⟨#[32]⟩ : ByteArray) ++ a0) ++ (⟨#[32]⟩ : ByteArray))).bind fun t107 => (some (!t107))) else (none)) else (none)) else (some false))) = some r := h
  clear h
  replace H := Option.bind_eq_some_iff.mp H
  obtain ⟨t106, A20, H⟩ := H
  replace H : (if t106 = true then (if 1 + a0.size ≤ 9223372036854775807 then (if 1 + a0.size + 1 ≤ 9223372036854775807 then ((strings_Contains.f (⟨#[32, 100, 101, 102, 32, 105, 102, 32, 116, 104, 101, 110, 32, 101, 108, 105, 102, 32, 101, 108, 115, 101, 32, 101, 110, 100, 32, 97, 115, 32, 114, 101, 100, 117, 99, 101, 32, 102, 111, 114, 101, 97, 99, 104, 32, 116, 114, 121, 32, 99, 97, 116, 99, 104, 32, 97, 110, 100, 32, 111, 114, 32, 108, 97, 98, 101, 108, 32, 98, 114, 101, 97, 107, 32, 110, 117, 108, 108, 32, 116, 114, 117, 101, 32, 102, 97, 108, 115, 101, 32]⟩ : ByteArray) (((⟨#[32]⟩ : ByteArray) ++ a0) ++ (⟨#[32]⟩ : ByteArray))).bind fun t107 => (some (!t107))) else (none)) else (none)) else (some false)) = some r := H
  have A2 := Aside0.mk A20
  clear A20
  by_cases c3 : t106 = true
  · subst c3
    have H1 : (if 1 + a0.size ≤ 9223372036854775807 then (if 1 + a0.size + 1 ≤ 9223372036854775807 then ((strings_Contains.f (⟨#[32, 100, 101, 102, 32, 105, 102, 32, 116, 104, 101, 110, 32, 101, 108, 105, 102, 32, 101, 108, 115, 101, 32, 101, 110, 100, 32, 97, 115, 32, 114, 101, 100, 117, 99, 101, 32, 102, 111, 114, 101, 97, 99, 104, 32, 116, 114, 121, 32, 99, 97, 116, 99, 104, 32, 97, 110, 100, 32, 111, 114, 32, 108, 97, 98, 101, 108, 32, 98, 114, 101, 97, 107, 32, 110, 117, 108, 108, 32, 116, 114, 117, 101, 32, 102, 97, 108, 115, 101, 32]⟩ : ByteArray) (((⟨#[32]⟩ : ByteArray) ++ a0) ++ (⟨#[32]⟩ : ByteArray))).bind fun t107 => (some (!t107))) else (none)) else (none)) = some r := by rw [if_pos rfl] at H; exact H
    clear H
    have H := H1
    clear H1
    by_cases c4 : 1 + a0.size ≤ 9223372036854775807
    · rw [if_pos c4] at H
      have c4b0 := eq_true c4
      have c4b1 : decide (1 + a0.size ≤ 9223372036854775807) = true := decide_eq_true c4
      try have c4b2 : (9223372036854775807 < 1 + a0.size) = False := eq_false (Nat.not_lt.2 c4)
      by_cases c5 : 1 + a0.size + 1 ≤ 9223372036854775807
      · rw [if_pos c5] at H
        have c5b0 := eq_true c5
        have c5b1 : decide (1 + a0.size + 1 ≤ 9223372036854775807) = true := decide_eq_true c5
        try have c5b2 : (9223372036854775807 < 1 + a0.size + 1) = False := eq_false (Nat.not_lt.2 c5)
        replace H := Option.bind_eq_some_iff.mp H
        obtain ⟨t107, A60, H⟩ := H
        replace H : (some (!t107)) = some r := H
        have A6 := Aside0.mk A60
        clear A60
        obtain rfl := Option.some.inj H
        go_enter Try.func9, Try.ntmps9
        go_wp2_with (first | ((with_reducible refine gate_callee (f := 7) rfl ?_); refine goesL_ (some 4) rfl rfl Try.func7 (by kernel_rfl) rfl #[.string a0] rfl (by (try simp only [List.map_toArray, List.map_cons, List.map_nil]); first | done | rfl | (simp only [List.length_drop, List.length_take]; rfl)) ?_; (with_reducible refine (word_Named.calls a0 true _ A2.out).mono ?_); rintro e w' ⟨rfl, ⟨nd, rfl⟩⟩; refine ⟨_, rfl, ?_⟩) | (go_at_call 18; (refine (strings_Contains.calls (⟨#[32, 100, 101, 102, 32, 105, 102, 32, 116, 104, 101, 110, 32, 101, 108, 105, 102, 32, 101, 108, 115, 101, 32, 101, 110, 100, 32, 97, 115, 32, 114, 101, 100, 117, 99, 101, 32, 102, 111, 114, 101, 97, 99, 104, 32, 116, 114, 121, 32, 99, 97, 116, 99, 104, 32, 97, 110, 100, 32, 111, 114, 32, 108, 97, 98, 101, 108, 32, 98, 114, 101, 97, 107, 32, 110, 117, 108, 108, 32, 116, 114, 117, 101, 32, 102, 97, 108, 115, 101, 32]⟩ : ByteArray) (((⟨#[32]⟩ : ByteArray) ++ a0) ++ (⟨#[32]⟩ : ByteArray)) t107 _ ?side1 A6.out).mono ?_); (case side1 => exact Tabs.of_heap HTab_.out rfl); rintro e w' ⟨rfl, ⟨nd, rfl⟩⟩))
        go_ret
        exact ⟨by first | rfl | (simp; done) | (simp [*]; done), by repeat (first | exact Drawn0.refl _ | apply Drawn0.step)⟩
      · rw [if_neg c5] at H
        exact absurd H (by simp)
    · rw [if_neg c4] at H
      exact absurd H (by simp)
  · replace c3 := Bool.eq_false_iff.mpr c3
    subst c3
    have H1 : (some false) = some r := by rw [if_neg (show ¬ (false = true) by decide)] at H; exact H
    clear H
    have H := H1
    clear H1
    obtain rfl := Option.some.inj H
    go_enter Try.func9, Try.ntmps9
    go_wp2_with (first | ((with_reducible refine gate_callee (f := 7) rfl ?_); refine goesL_ (some 4) rfl rfl Try.func7 (by kernel_rfl) rfl #[.string a0] rfl (by (try simp only [List.map_toArray, List.map_cons, List.map_nil]); first | done | rfl | (simp only [List.length_drop, List.length_take]; rfl)) ?_; (with_reducible refine (word_Named.calls a0 false _ A2.out).mono ?_); rintro e w' ⟨rfl, ⟨nd, rfl⟩⟩; refine ⟨_, rfl, ?_⟩))
    go_ret
    exact ⟨by first | rfl | (simp; done) | (simp [*]; done), by repeat (first | exact Drawn0.refl _ | apply Drawn0.step)⟩

/-! ### hallmarklaw16_WordNamed: function 5 -/
def hallmarklaw16_WordNamed.f (k : Nat) (a0 : ByteArray) : Option (Bool) := (word_Named.f a0).bind fun t110 => ((hallmarkref16_Named.f k a0).bind fun t111 => (if (t110 == t111) = true then ((word_Plain.f a0).bind fun t112 => ((hallmarkref16_Plain.f k a0).bind fun t113 => (if (t112 == t113) = true then ((word_Plain.f (⟨#[109, 97, 112]⟩ : ByteArray)).bind fun t114 => (if t114 = true then ((word_Plain.f (⟨#[97, 110, 100]⟩ : ByteArray)).bind fun t115 => (some (!t115))) else (some false))) else (some false)))) else (some false)))
theorem hallmarklaw16_WordNamed.mono : ∀ a0 k, LeO (hallmarklaw16_WordNamed.f k a0) (hallmarklaw16_WordNamed.f (k + 1) a0) := by
  intro a0 k
  unfold hallmarklaw16_WordNamed.f
  repeat' first
      | (with_reducible exact hallmarkref16_Named.mono _ _)
      | (with_reducible exact hallmarkref16_Plain.mono _ _)
      | (with_reducible exact LeO.refl _)
      | (with_reducible exact LeO.none _)
      | (with_reducible refine LeO.ite ?_ ?_)
      | (with_reducible refine LeO.bind ?_ (fun _ => ?_))
      | exact hallmarkref16_Named.mono _ _
      | exact hallmarkref16_Plain.mono _ _
      | exact LeO.none _
      | refine LeO.ite ?_ ?_
      | refine LeO.bind ?_ (fun _ => ?_)
set_option maxHeartbeats 8000000 in
set_option maxRecDepth 100000 in
theorem hallmarklaw16_WordNamed.calls (k : Nat) (a0 : ByteArray) (r : Bool) (w : World) (hT : Tabs w) (h : hallmarklaw16_WordNamed.f k a0 = some r) :
    Calls Try.prog 5 #[.string a0] w fun e w' => e = .returned (.bool r) ∧ Drawn0 w w' := by
  have HTab_ := Aside0.mk hT
  clear hT
  have H : ((word_Named.f a0).bind fun t110 => ((hallmarkref16_Named.f k a0).bind fun t111 => (if (t110 == t111) = true then ((word_Plain.f a0).bind fun t112 => ((hallmarkref16_Plain.f k a0).bind fun t113 => (if (t112 == t113) = true then ((word_Plain.f (⟨#[109, 97, 112]⟩ : ByteArray)).bind fun t114 => (if t114 = true then ((word_Plain.f (⟨#[97, 110, 100]⟩ : ByteArray)).bind fun t115 => (some (!t115))) else (some false))) else (some false)))) else (some false)))) = some r := h
  clear h
  replace H := Option.bind_eq_some_iff.mp H
  obtain ⟨t110, A20, H⟩ := H
  replace H : ((hallmarkref16_Named.f k a0).bind fun t111 => (if (t110 == t111) = true then ((word_Plain.f a0).bind fun t112 => ((hallmarkref16_Plain.f k a0).bind fun t113 => (if (t112 == t113) = true then ((word_Plain.f (⟨#[109, 97, 112]⟩ : ByteArray)).bind fun t114 => (if t114 = true then ((word_Plain.f (⟨#[97, 110, 100]⟩ : ByteArray)).bind fun t115 => (some (!t115))) else (some false))) else (some false)))) else (some false))) = some r := H
  have A2 := Aside0.mk A20
  clear A20
  replace H := Option.bind_eq_some_iff.mp H
  obtain ⟨t111, A30, H⟩ := H
  replace H : (if (t110 == t111) = true then ((word_Plain.f a0).bind fun t112 => ((hallmarkref16_Plain.f k a0).bind fun t113 => (if (t112 == t113) = true then ((word_Plain.f (⟨#[109, 97, 112]⟩ : ByteArray)).bind fun t114 => (if t114 = true then ((word_Plain.f (⟨#[97, 110, 100]⟩ : ByteArray)).bind fun t115 => (some (!t115))) else (some false))) else (some false)))) else (some false)) = some r := H
  have A3 := Aside0.mk A30
  clear A30
  by_cases c4 : (t110 == t111) = true
  · rw [if_pos c4] at H
    have c4b0 : (t110 == t111) = true := c4
    (try (have c4b1 : decide (t110 = t111) = true := by simpa using c4))
    (try (have c4b2 : (t110 == t111) = true := by simpa using c4))
    clear c4
    replace H := Option.bind_eq_some_iff.mp H
    obtain ⟨t112, A50, H⟩ := H
    replace H : ((hallmarkref16_Plain.f k a0).bind fun t113 => (if (t112 == t113) = true then ((word_Plain.f (⟨#[109, 97, 112]⟩ : ByteArray)).bind fun t114 => (if t114 = true then ((word_Plain.f (⟨#[97, 110, 100]⟩ : ByteArray)).bind fun t115 => (some (!t115))) else (some false))) else (some false))) = some r := H
    have A5 := Aside0.mk A50
    clear A50
    replace H := Option.bind_eq_some_iff.mp H
    obtain ⟨t113, A60, H⟩ := H
    replace H : (if (t112 == t113) = true then ((word_Plain.f (⟨#[109, 97, 112]⟩ : ByteArray)).bind fun t114 => (if t114 = true then ((word_Plain.f (⟨#[97, 110, 100]⟩ : ByteArray)).bind fun t115 => (some (!t115))) else (some false))) else (some false)) = some r := H
    have A6 := Aside0.mk A60
    clear A60
    by_cases c7 : (t112 == t113) = true
    · rw [if_pos c7] at H
      have c7b0 : (t112 == t113) = true := c7
      (try (have c7b1 : decide (t112 = t113) = true := by simpa using c7))
      (try (have c7b2 : (t112 == t113) = true := by simpa using c7))
      clear c7
      replace H := Option.bind_eq_some_iff.mp H
      obtain ⟨t114, A80, H⟩ := H
      replace H : (if t114 = true then ((word_Plain.f (⟨#[97, 110, 100]⟩ : ByteArray)).bind fun t115 => (some (!t115))) else (some false)) = some r := H
      have A8 := Aside0.mk A80
      clear A80
      by_cases c9 : t114 = true
      · subst c9
        have H1 : ((word_Plain.f (⟨#[97, 110, 100]⟩ : ByteArray)).bind fun t115 => (some (!t115))) = some r := by rw [if_pos rfl] at H; exact H
        clear H
        have H := H1
        clear H1
        replace H := Option.bind_eq_some_iff.mp H
        obtain ⟨t115, A100, H⟩ := H
        replace H : (some (!t115)) = some r := H
        have A10 := Aside0.mk A100
        clear A100
        obtain rfl := Option.some.inj H
        go_enter Try.func5, Try.ntmps5
        go_wp2_with (first | ((with_reducible refine gate_callee (f := 7) rfl ?_); refine goesL_ (some 4) rfl rfl Try.func7 (by kernel_rfl) rfl #[.string a0] rfl (by (try simp only [List.map_toArray, List.map_cons, List.map_nil]); first | done | rfl | (simp only [List.length_drop, List.length_take]; rfl)) ?_; (with_reducible refine (word_Named.calls a0 t110 _ A2.out).mono ?_); rintro e w' ⟨rfl, ⟨nd, rfl⟩⟩; refine ⟨_, rfl, ?_⟩) | ((with_reducible refine gate_callee (f := 8) rfl ?_); refine goesL_ (some 6) rfl rfl Try.func8 (by kernel_rfl) rfl #[.string a0] rfl (by (try simp only [List.map_toArray, List.map_cons, List.map_nil]); first | done | rfl | (simp only [List.length_drop, List.length_take]; rfl)) ?_; (with_reducible refine (hallmarkref16_Named.calls k a0 t111 _ A3.out).mono ?_); rintro e w' ⟨rfl, ⟨nd, rfl⟩⟩; refine ⟨_, rfl, ?_⟩) | (go_at_call 9; (with_reducible refine (word_Plain.calls a0 t112 _ ?side1 A5.out).mono ?_); (case side1 => exact Tabs.of_heap HTab_.out rfl); rintro e w' ⟨rfl, ⟨nd, rfl⟩⟩) | (go_at_call 10; (with_reducible refine (hallmarkref16_Plain.calls k a0 t113 _ A6.out).mono ?_); rintro e w' ⟨rfl, ⟨nd, rfl⟩⟩) | (go_at_call 9; (with_reducible refine (word_Plain.calls (⟨#[109, 97, 112]⟩ : ByteArray) true _ ?side1 A8.out).mono ?_); (case side1 => exact Tabs.of_heap HTab_.out rfl); rintro e w' ⟨rfl, ⟨nd, rfl⟩⟩) | (go_at_call 9; (with_reducible refine (word_Plain.calls (⟨#[97, 110, 100]⟩ : ByteArray) t115 _ ?side1 A10.out).mono ?_); (case side1 => exact Tabs.of_heap HTab_.out rfl); rintro e w' ⟨rfl, ⟨nd, rfl⟩⟩))
        go_ret
        exact ⟨by first | rfl | (simp; done) | (simp [*]; done), by repeat (first | exact Drawn0.refl _ | apply Drawn0.step)⟩
      · replace c9 := Bool.eq_false_iff.mpr c9
        subst c9
        have H1 : (some false) = some r := by rw [if_neg (show ¬ (false = true) by decide)] at H; exact H
        clear H
        have H := H1
        clear H1
        obtain rfl := Option.some.inj H
        go_enter Try.func5, Try.ntmps5
        go_wp2_with (first | ((with_reducible refine gate_callee (f := 7) rfl ?_); refine goesL_ (some 4) rfl rfl Try.func7 (by kernel_rfl) rfl #[.string a0] rfl (by (try simp only [List.map_toArray, List.map_cons, List.map_nil]); first | done | rfl | (simp only [List.length_drop, List.length_take]; rfl)) ?_; (with_reducible refine (word_Named.calls a0 t110 _ A2.out).mono ?_); rintro e w' ⟨rfl, ⟨nd, rfl⟩⟩; refine ⟨_, rfl, ?_⟩) | ((with_reducible refine gate_callee (f := 8) rfl ?_); refine goesL_ (some 6) rfl rfl Try.func8 (by kernel_rfl) rfl #[.string a0] rfl (by (try simp only [List.map_toArray, List.map_cons, List.map_nil]); first | done | rfl | (simp only [List.length_drop, List.length_take]; rfl)) ?_; (with_reducible refine (hallmarkref16_Named.calls k a0 t111 _ A3.out).mono ?_); rintro e w' ⟨rfl, ⟨nd, rfl⟩⟩; refine ⟨_, rfl, ?_⟩) | (go_at_call 9; (with_reducible refine (word_Plain.calls a0 t112 _ ?side1 A5.out).mono ?_); (case side1 => exact Tabs.of_heap HTab_.out rfl); rintro e w' ⟨rfl, ⟨nd, rfl⟩⟩) | (go_at_call 10; (with_reducible refine (hallmarkref16_Plain.calls k a0 t113 _ A6.out).mono ?_); rintro e w' ⟨rfl, ⟨nd, rfl⟩⟩) | (go_at_call 9; (with_reducible refine (word_Plain.calls (⟨#[109, 97, 112]⟩ : ByteArray) false _ ?side1 A8.out).mono ?_); (case side1 => exact Tabs.of_heap HTab_.out rfl); rintro e w' ⟨rfl, ⟨nd, rfl⟩⟩))
        go_ret
        exact ⟨by first | rfl | (simp; done) | (simp [*]; done), by repeat (first | exact Drawn0.refl _ | apply Drawn0.step)⟩
    · rw [if_neg c7] at H
      have c7b0 : (t112 == t113) = false := by simpa using c7
      (try (have c7b1 : decide (t112 = t113) = false := by simpa using c7))
      (try (have c7b2 : (t112 == t113) = false := by simpa using c7))
      (try (have c7b3 : ¬ (t112 = t113) := by simpa using c7))
      clear c7
      obtain rfl := Option.some.inj H
      go_enter Try.func5, Try.ntmps5
      go_wp2_with (first | ((with_reducible refine gate_callee (f := 7) rfl ?_); refine goesL_ (some 4) rfl rfl Try.func7 (by kernel_rfl) rfl #[.string a0] rfl (by (try simp only [List.map_toArray, List.map_cons, List.map_nil]); first | done | rfl | (simp only [List.length_drop, List.length_take]; rfl)) ?_; (with_reducible refine (word_Named.calls a0 t110 _ A2.out).mono ?_); rintro e w' ⟨rfl, ⟨nd, rfl⟩⟩; refine ⟨_, rfl, ?_⟩) | ((with_reducible refine gate_callee (f := 8) rfl ?_); refine goesL_ (some 6) rfl rfl Try.func8 (by kernel_rfl) rfl #[.string a0] rfl (by (try simp only [List.map_toArray, List.map_cons, List.map_nil]); first | done | rfl | (simp only [List.length_drop, List.length_take]; rfl)) ?_; (with_reducible refine (hallmarkref16_Named.calls k a0 t111 _ A3.out).mono ?_); rintro e w' ⟨rfl, ⟨nd, rfl⟩⟩; refine ⟨_, rfl, ?_⟩) | (go_at_call 9; (with_reducible refine (word_Plain.calls a0 t112 _ ?side1 A5.out).mono ?_); (case side1 => exact Tabs.of_heap HTab_.out rfl); rintro e w' ⟨rfl, ⟨nd, rfl⟩⟩) | (go_at_call 10; (with_reducible refine (hallmarkref16_Plain.calls k a0 t113 _ A6.out).mono ?_); rintro e w' ⟨rfl, ⟨nd, rfl⟩⟩))
      go_ret
      exact ⟨by first | rfl | (simp; done) | (simp [*]; done), by repeat (first | exact Drawn0.refl _ | apply Drawn0.step)⟩
  · rw [if_neg c4] at H
    have c4b0 : (t110 == t111) = false := by simpa using c4
    (try (have c4b1 : decide (t110 = t111) = false := by simpa using c4))
    (try (have c4b2 : (t110 == t111) = false := by simpa using c4))
    (try (have c4b3 : ¬ (t110 = t111) := by simpa using c4))
    clear c4
    obtain rfl := Option.some.inj H
    go_enter Try.func5, Try.ntmps5
    go_wp2_with (first | ((with_reducible refine gate_callee (f := 7) rfl ?_); refine goesL_ (some 4) rfl rfl Try.func7 (by kernel_rfl) rfl #[.string a0] rfl (by (try simp only [List.map_toArray, List.map_cons, List.map_nil]); first | done | rfl | (simp only [List.length_drop, List.length_take]; rfl)) ?_; (with_reducible refine (word_Named.calls a0 t110 _ A2.out).mono ?_); rintro e w' ⟨rfl, ⟨nd, rfl⟩⟩; refine ⟨_, rfl, ?_⟩) | ((with_reducible refine gate_callee (f := 8) rfl ?_); refine goesL_ (some 6) rfl rfl Try.func8 (by kernel_rfl) rfl #[.string a0] rfl (by (try simp only [List.map_toArray, List.map_cons, List.map_nil]); first | done | rfl | (simp only [List.length_drop, List.length_take]; rfl)) ?_; (with_reducible refine (hallmarkref16_Named.calls k a0 t111 _ A3.out).mono ?_); rintro e w' ⟨rfl, ⟨nd, rfl⟩⟩; refine ⟨_, rfl, ?_⟩))
    go_ret
    exact ⟨by first | rfl | (simp; done) | (simp [*]; done), by repeat (first | exact Drawn0.refl _ | apply Drawn0.step)⟩

/-! ### scope_plain: function 20 -/
def scope_plain.f (a0 : ByteArray) : Option (Bool) := if a0.toList = ([] : List UInt8) then (some false) else ((strings_Contains.f a0 (⟨#[32]⟩ : ByteArray)).bind fun t116 => (some (!t116)))
set_option maxHeartbeats 8000000 in
set_option maxRecDepth 100000 in
theorem scope_plain.calls (a0 : ByteArray) (r : Bool) (w : World) (hT : Tabs w) (h : scope_plain.f a0 = some r) :
    Calls Try.prog 20 #[.string a0] w fun e w' => e = .returned (.bool r) ∧ Drawn0 w w' := by
  have HTab_ := Aside0.mk hT
  clear hT
  have H : (if a0.toList = ([] : List UInt8) then (some false) else ((strings_Contains.f a0 (⟨#[32]⟩ : ByteArray)).bind fun t116 => (some (!t116)))) = some r := h
  clear h
  by_cases c2 : a0.toList = ([] : List UInt8)
  · rw [if_pos c2] at H
    have c2b0 : (a0.toList == ([] : List UInt8)) = true := beq_iff_eq.mpr c2
    have c2b1 : (a0.toList != ([] : List UInt8)) = false := bne_eq_false_iff_eq.mpr c2
    clear c2
    obtain rfl := Option.some.inj H
    go_enter Try.func20, Try.ntmps20
    go_wp2
    go_ret
    exact ⟨by first | rfl | (simp; done) | (simp [*]; done), by repeat (first | exact Drawn0.refl _ | apply Drawn0.step)⟩
  · rw [if_neg c2] at H
    have c2b0 : (a0.toList == ([] : List UInt8)) = false := beq_eq_false_iff_ne.mpr c2
    have c2b1 : (a0.toList != ([] : List UInt8)) = true := bne_iff_ne.mpr c2
    replace H := Option.bind_eq_some_iff.mp H
    obtain ⟨t116, A30, H⟩ := H
    replace H : (some (!t116)) = some r := H
    have A3 := Aside0.mk A30
    clear A30
    obtain rfl := Option.some.inj H
    go_enter Try.func20, Try.ntmps20
    go_wp2_with (first | (go_at_call 18; (with_reducible refine (strings_Contains.calls a0 (⟨#[32]⟩ : ByteArray) t116 _ ?side1 A3.out).mono ?_); (case side1 => exact Tabs.of_heap HTab_.out rfl); rintro e w' ⟨rfl, ⟨nd, rfl⟩⟩))
    go_ret
    exact ⟨by first | rfl | (simp; done) | (simp [*]; done), by repeat (first | exact Drawn0.refl _ | apply Drawn0.step)⟩

/-! ### scope_Builtin: function 11 -/
def scope_Builtin.f (a0 : ByteArray) (a1 : Int) : Option (Bool) := (scope_plain.f a0).bind fun t117 => (if t117 = true then (if a1 = 0 then (if 1 + a0.size ≤ 9223372036854775807 then (if 1 + a0.size + 1 ≤ 9223372036854775807 then ((strings_Contains.f (⟨#[32, 101, 109, 112, 116, 121, 32, 101, 114, 114, 111, 114, 32, 108, 101, 110, 103, 116, 104, 32, 117, 116, 102, 56, 98, 121, 116, 101, 108, 101, 110, 103, 116, 104, 32, 110, 111, 116, 32, 107, 101, 121, 115, 32, 116, 121, 112, 101, 32, 116, 111, 115, 116, 114, 105, 110, 103, 32, 116, 111, 110, 117, 109, 98, 101, 114, 32, 116, 111, 106, 115, 111, 110, 32, 102, 114, 111, 109, 106, 115, 111, 110, 32, 97, 115, 99, 105, 105, 95, 100, 111, 119, 110, 99, 97, 115, 101, 32, 97, 115, 99, 105, 105, 95, 117, 112, 99, 97, 115, 101, 32, 101, 120, 112, 108, 111, 100, 101, 32, 105, 109, 112, 108, 111, 100, 101, 32, 114, 101, 118, 101, 114, 115, 101, 32, 115, 111, 114, 116, 32, 109, 105, 110, 32, 109, 97, 120, 32, 117, 110, 105, 113, 117, 101, 32, 97, 100, 100, 32, 102, 108, 97, 116, 116, 101, 110, 32, 116, 114, 97, 110, 115, 112, 111, 115, 101, 32, 97, 98, 115, 32, 116, 111, 97, 114, 114, 97, 121, 32]⟩ : ByteArray) (((⟨#[32]⟩ : ByteArray) ++ a0) ++ (⟨#[32]⟩ : ByteArray))).bind fun t118 => (some t118)) else (none)) else (none)) else (if a1 = 1 then (if 1 + a0.size ≤ 9223372036854775807 then (if 1 + a0.size + 1 ≤ 9223372036854775807 then ((strings_Contains.f (⟨#[32, 101, 114, 114, 111, 114, 32, 112, 97, 116, 104, 32, 104, 97, 115, 32, 99, 111, 110, 116, 97, 105, 110, 115, 32, 115, 116, 97, 114, 116, 115, 119, 105, 116, 104, 32, 101, 110, 100, 115, 119, 105, 116, 104, 32, 108, 116, 114, 105, 109, 115, 116, 114, 32, 114, 116, 114, 105, 109, 115, 116, 114, 32, 115, 112, 108, 105, 116, 32, 106, 111, 105, 110, 32, 105, 110, 100, 105, 99, 101, 115, 32, 95, 115, 111, 114, 116, 95, 98, 121, 32, 95, 103, 114, 111, 117, 112, 95, 98, 121, 32, 95, 117, 110, 105, 113, 117, 101, 95, 98, 121, 32, 95, 109, 105, 110, 95, 98, 121, 32, 95, 109, 97, 120, 95, 98, 121, 32, 103, 101, 116, 112, 97, 116, 104, 32, 100, 101, 108, 112, 97, 116, 104, 115, 32]⟩ : ByteArray) (((⟨#[32]⟩ : ByteArray) ++ a0) ++ (⟨#[32]⟩ : ByteArray))).bind fun t119 => (some t119)) else (none)) else (none)) else (if a1 = 2 then (if 1 + a0.size ≤ 9223372036854775807 then (if 1 + a0.size + 1 ≤ 9223372036854775807 then ((strings_Contains.f (⟨#[32, 114, 97, 110, 103, 101, 32, 115, 101, 116, 112, 97, 116, 104, 32]⟩ : ByteArray) (((⟨#[32]⟩ : ByteArray) ++ a0) ++ (⟨#[32]⟩ : ByteArray))).bind fun t120 => (some t120)) else (none)) else (none)) else (some false)))) else (some false))
set_option maxHeartbeats 8000000 in
set_option maxRecDepth 100000 in
theorem scope_Builtin.calls (a0 : ByteArray) (a1 : Int) (r : Bool) (w : World) (hT : Tabs w) (h : scope_Builtin.f a0 a1 = some r) :
    Calls Try.prog 11 #[.string a0, .int .i64 a1] w fun e w' => e = .returned (.bool r) ∧ Drawn0 w w' := by
  have HTab_ := Aside0.mk hT
  clear hT
  have H : ((scope_plain.f a0).bind fun t117 => (if t117 = true then (if a1 = 0 then (if 1 + a0.size ≤ 9223372036854775807 then (if 1 + a0.size + 1 ≤ 9223372036854775807 then ((strings_Contains.f (⟨#[32, 101, 109, 112, 116, 121, 32, 101, 114, 114, 111, 114, 32, 108, 101, 110, 103, 116, 104, 32, 117, 116, 102, 56, 98, 121, 116, 101, 108, 101, 110, 103, 116, 104, 32, 110, 111, 116, 32, 107, 101, 121, 115, 32, 116, 121, 112, 101, 32, 116, 111, 115, 116, 114, 105, 110, 103, 32, 116, 111, 110, 117, 109, 98, 101, 114, 32, 116, 111, 106, 115, 111, 110, 32, 102, 114, 111, 109, 106, 115, 111, 110, 32, 97, 115, 99, 105, 105, 95, 100, 111, 119, 110, 99, 97, 115, 101, 32, 97, 115, 99, 105, 105, 95, 117, 112, 99, 97, 115, 101, 32, 101, 120, 112, 108, 111, 100, 101, 32, 105, 109, 112, 108, 111, 100, 101, 32, 114, 101, 118, 101, 114, 115, 101, 32, 115, 111, 114, 116, 32, 109, 105, 110, 32, 109, 97, 120, 32, 117, 110, 105, 113, 117, 101, 32, 97, 100, 100, 32, 102, 108, 97, 116, 116, 101, 110, 32, 116, 114, 97, 110, 115, 112, 111, 115, 101, 32, 97, 98, 115, 32, 116, 111, 97, 114, 114, 97, 121, 32]⟩ : ByteArray) (((⟨#[32]⟩ : ByteArray) ++ a0) ++ (⟨#[32]⟩ : ByteArray))).bind fun t118 => (some t118)) else (none)) else (none)) else (if a1 = 1 then (if 1 + a0.size ≤ 9223372036854775807 then (if 1 + a0.size + 1 ≤ 9223372036854775807 then ((strings_Contains.f (⟨#[32, 101, 114, 114, 111, 114, 32, 112, 97, 116, 104, 32, 104, 97, 115, 32, 99, 111, 110, 116, 97, 105, 110, 115, 32, 115, 116, 97, 114, 116, 115, 119, 105, 116, 104, 32, 101, 110, 100, 115, 119, 105, 116, 104, 32, 108, 116, 114, 105, 109, 115, 116, 114, 32, 114, 116, 114, 105, 109, 115, 116, 114, 32, 115, 112, 108, 105, 116, 32, 106, 111, 105, 110, 32, 105, 110, 100, 105, 99, 101, 115, 32, 95, 115, 111, 114, 116, 95, 98, 121, 32, 95, 103, 114, 111, 117, 112, 95, 98, 121, 32, 95, 117, 110, 105, 113, 117, 101, 95, 98, 121, 32, 95, 109, 105, 110, 95, 98, 121, 32, 95, 109, 97, 120, 95, 98, 121, 32, 103, 101, 116, 112, 97, 116, 104, 32, 100, 101, 108, 112, 97, 116, 104, 115, 32]⟩ : ByteArray) (((⟨#[32]⟩ : ByteArray) ++ a0) ++ (⟨#[32]⟩ : ByteArray))).bind fun t119 => (some t119)) else (none)) else (none)) else (if a1 = 2 then (if 1 + a0.size ≤ 9223372036854775807 then (if 1 + a0.size + 1 ≤ 9223372036854775807 then ((strings_Contains.f (⟨#[32, 114, 97, 110, 103, 101, 32, 115, 101, 116, 112, 97, 116, 104, 32]⟩ : ByteArray) (((⟨#[32]⟩ : ByteArray) ++ a0) ++ (⟨#[32]⟩ : ByteArray))).bind fun t120 => (some t120)) else (none)) else (none)) else (some false)))) else (some false))) = some r := h
  clear h
  replace H := Option.bind_eq_some_iff.mp H
  obtain ⟨t117, A30, H⟩ := H
  replace H : (if t117 = true then (if a1 = 0 then (if 1 + a0.size ≤ 9223372036854775807 then (if 1 + a0.size + 1 ≤ 9223372036854775807 then ((strings_Contains.f (⟨#[32, 101, 109, 112, 116, 121, 32, 101, 114, 114, 111, 114, 32, 108, 101, 110, 103, 116, 104, 32, 117, 116, 102, 56, 98, 121, 116, 101, 108, 101, 110, 103, 116, 104, 32, 110, 111, 116, 32, 107, 101, 121, 115, 32, 116, 121, 112, 101, 32, 116, 111, 115, 116, 114, 105, 110, 103, 32, 116, 111, 110, 117, 109, 98, 101, 114, 32, 116, 111, 106, 115, 111, 110, 32, 102, 114, 111, 109, 106, 115, 111, 110, 32, 97, 115, 99, 105, 105, 95, 100, 111, 119, 110, 99, 97, 115, 101, 32, 97, 115, 99, 105, 105, 95, 117, 112, 99, 97, 115, 101, 32, 101, 120, 112, 108, 111, 100, 101, 32, 105, 109, 112, 108, 111, 100, 101, 32, 114, 101, 118, 101, 114, 115, 101, 32, 115, 111, 114, 116, 32, 109, 105, 110, 32, 109, 97, 120, 32, 117, 110, 105, 113, 117, 101, 32, 97, 100, 100, 32, 102, 108, 97, 116, 116, 101, 110, 32, 116, 114, 97, 110, 115, 112, 111, 115, 101, 32, 97, 98, 115, 32, 116, 111, 97, 114, 114, 97, 121, 32]⟩ : ByteArray) (((⟨#[32]⟩ : ByteArray) ++ a0) ++ (⟨#[32]⟩ : ByteArray))).bind fun t118 => (some t118)) else (none)) else (none)) else (if a1 = 1 then (if 1 + a0.size ≤ 9223372036854775807 then (if 1 + a0.size + 1 ≤ 9223372036854775807 then ((strings_Contains.f (⟨#[32, 101, 114, 114, 111, 114, 32, 112, 97, 116, 104, 32, 104, 97, 115, 32, 99, 111, 110, 116, 97, 105, 110, 115, 32, 115, 116, 97, 114, 116, 115, 119, 105, 116, 104, 32, 101, 110, 100, 115, 119, 105, 116, 104, 32, 108, 116, 114, 105, 109, 115, 116, 114, 32, 114, 116, 114, 105, 109, 115, 116, 114, 32, 115, 112, 108, 105, 116, 32, 106, 111, 105, 110, 32, 105, 110, 100, 105, 99, 101, 115, 32, 95, 115, 111, 114, 116, 95, 98, 121, 32, 95, 103, 114, 111, 117, 112, 95, 98, 121, 32, 95, 117, 110, 105, 113, 117, 101, 95, 98, 121, 32, 95, 109, 105, 110, 95, 98, 121, 32, 95, 109, 97, 120, 95, 98, 121, 32, 103, 101, 116, 112, 97, 116, 104, 32, 100, 101, 108, 112, 97, 116, 104, 115, 32]⟩ : ByteArray) (((⟨#[32]⟩ : ByteArray) ++ a0) ++ (⟨#[32]⟩ : ByteArray))).bind fun t119 => (some t119)) else (none)) else (none)) else (if a1 = 2 then (if 1 + a0.size ≤ 9223372036854775807 then (if 1 + a0.size + 1 ≤ 9223372036854775807 then ((strings_Contains.f (⟨#[32, 114, 97, 110, 103, 101, 32, 115, 101, 116, 112, 97, 116, 104, 32]⟩ : ByteArray) (((⟨#[32]⟩ : ByteArray) ++ a0) ++ (⟨#[32]⟩ : ByteArray))).bind fun t120 => (some t120)) else (none)) else (none)) else (some false)))) else (some false)) = some r := H
  have A3 := Aside0.mk A30
  clear A30
  by_cases c4 : t117 = true
  · subst c4
    have H1 : (if a1 = 0 then (if 1 + a0.size ≤ 9223372036854775807 then (if 1 + a0.size + 1 ≤ 9223372036854775807 then ((strings_Contains.f (⟨#[32, 101, 109, 112, 116, 121, 32, 101, 114, 114, 111, 114, 32, 108, 101, 110, 103, 116, 104, 32, 117, 116, 102, 56, 98, 121, 116, 101, 108, 101, 110, 103, 116, 104, 32, 110, 111, 116, 32, 107, 101, 121, 115, 32, 116, 121, 112, 101, 32, 116, 111, 115, 116, 114, 105, 110, 103, 32, 116, 111, 110, 117, 109, 98, 101, 114, 32, 116, 111, 106, 115, 111, 110, 32, 102, 114, 111, 109, 106, 115, 111, 110, 32, 97, 115, 99, 105, 105, 95, 100, 111, 119, 110, 99, 97, 115, 101, 32, 97, 115, 99, 105, 105, 95, 117, 112, 99, 97, 115, 101, 32, 101, 120, 112, 108, 111, 100, 101, 32, 105, 109, 112, 108, 111, 100, 101, 32, 114, 101, 118, 101, 114, 115, 101, 32, 115, 111, 114, 116, 32, 109, 105, 110, 32, 109, 97, 120, 32, 117, 110, 105, 113, 117, 101, 32, 97, 100, 100, 32, 102, 108, 97, 116, 116, 101, 110, 32, 116, 114, 97, 110, 115, 112, 111, 115, 101, 32, 97, 98, 115, 32, 116, 111, 97, 114, 114, 97, 121, 32]⟩ : ByteArray) (((⟨#[32]⟩ : ByteArray) ++ a0) ++ (⟨#[32]⟩ : ByteArray))).bind fun t118 => (some t118)) else (none)) else (none)) else (if a1 = 1 then (if 1 + a0.size ≤ 9223372036854775807 then (if 1 + a0.size + 1 ≤ 9223372036854775807 then ((strings_Contains.f (⟨#[32, 101, 114, 114, 111, 114, 32, 112, 97, 116, 104, 32, 104, 97, 115, 32, 99, 111, 110, 116, 97, 105, 110, 115, 32, 115, 116, 97, 114, 116, 115, 119, 105, 116, 104, 32, 101, 110, 100, 115, 119, 105, 116, 104, 32, 108, 116, 114, 105, 109, 115, 116, 114, 32, 114, 116, 114, 105, 109, 115, 116, 114, 32, 115, 112, 108, 105, 116, 32, 106, 111, 105, 110, 32, 105, 110, 100, 105, 99, 101, 115, 32, 95, 115, 111, 114, 116, 95, 98, 121, 32, 95, 103, 114, 111, 117, 112, 95, 98, 121, 32, 95, 117, 110, 105, 113, 117, 101, 95, 98, 121, 32, 95, 109, 105, 110, 95, 98, 121, 32, 95, 109, 97, 120, 95, 98, 121, 32, 103, 101, 116, 112, 97, 116, 104, 32, 100, 101, 108, 112, 97, 116, 104, 115, 32]⟩ : ByteArray) (((⟨#[32]⟩ : ByteArray) ++ a0) ++ (⟨#[32]⟩ : ByteArray))).bind fun t119 => (some t119)) else (none)) else (none)) else (if a1 = 2 then (if 1 + a0.size ≤ 9223372036854775807 then (if 1 + a0.size + 1 ≤ 9223372036854775807 then ((strings_Contains.f (⟨#[32, 114, 97, 110, 103, 101, 32, 115, 101, 116, 112, 97, 116, 104, 32]⟩ : ByteArray) (((⟨#[32]⟩ : ByteArray) ++ a0) ++ (⟨#[32]⟩ : ByteArray))).bind fun t120 => (some t120)) else (none)) else (none)) else (some false)))) = some r := by rw [if_pos rfl] at H; exact H
    clear H
    have H := H1
    clear H1
    by_cases c5 : a1 = 0
    · rw [if_pos c5] at H
      have c5b0 : (a1 == 0) = true := beq_iff_eq.mpr c5
      have c5b1 : (a1 != 0) = false := bne_eq_false_iff_eq.mpr c5
      clear c5
      by_cases c6 : 1 + a0.size ≤ 9223372036854775807
      · rw [if_pos c6] at H
        have c6b0 := eq_true c6
        have c6b1 : decide (1 + a0.size ≤ 9223372036854775807) = true := decide_eq_true c6
        try have c6b2 : (9223372036854775807 < 1 + a0.size) = False := eq_false (Nat.not_lt.2 c6)
        by_cases c7 : 1 + a0.size + 1 ≤ 9223372036854775807
        · rw [if_pos c7] at H
          have c7b0 := eq_true c7
          have c7b1 : decide (1 + a0.size + 1 ≤ 9223372036854775807) = true := decide_eq_true c7
          try have c7b2 : (9223372036854775807 < 1 + a0.size + 1) = False := eq_false (Nat.not_lt.2 c7)
          replace H := Option.bind_eq_some_iff.mp H
          obtain ⟨t118, A80, H⟩ := H
          replace H : (some t118) = some r := H
          have A8 := Aside0.mk A80
          clear A80
          obtain rfl := Option.some.inj H
          go_enter Try.func11, Try.ntmps11
          go_wp2_with (first | ((with_reducible refine gate_callee (f := 20) rfl ?_); refine goesL_ (some 6) rfl rfl Try.func20 (by kernel_rfl) rfl #[.string a0] rfl (by (try simp only [List.map_toArray, List.map_cons, List.map_nil]); first | done | rfl | (simp only [List.length_drop, List.length_take]; rfl)) ?_; (with_reducible refine (scope_plain.calls a0 true _ ?side1 A3.out).mono ?_); (case side1 => exact Tabs.of_heap HTab_.out rfl); rintro e w' ⟨rfl, ⟨nd, rfl⟩⟩; refine ⟨_, rfl, ?_⟩) | ((with_reducible refine gate_callee (f := 18) rfl ?_); refine goesL_ (some 14) rfl rfl Try.func18 (by kernel_rfl) rfl #[.string (⟨#[32, 101, 109, 112, 116, 121, 32, 101, 114, 114, 111, 114, 32, 108, 101, 110, 103, 116, 104, 32, 117, 116, 102, 56, 98, 121, 116, 101, 108, 101, 110, 103, 116, 104, 32, 110, 111, 116, 32, 107, 101, 121, 115, 32, 116, 121, 112, 101, 32, 116, 111, 115, 116, 114, 105, 110, 103, 32, 116, 111, 110, 117, 109, 98, 101, 114, 32, 116, 111, 106, 115, 111, 110, 32, 102, 114, 111, 109, 106, 115, 111, 110, 32, 97, 115, 99, 105, 105, 95, 100, 111, 119, 110, 99, 97, 115, 101, 32, 97, 115, 99, 105, 105, 95, 117, 112, 99, 97, 115, 101, 32, 101, 120, 112, 108, 111, 100, 101, 32, 105, 109, 112, 108, 111, 100, 101, 32, 114, 101, 118, 101, 114, 115, 101, 32, 115, 111, 114, 116, 32, 109, 105, 110, 32, 109, 97, 120, 32, 117, 110, 105, 113, 117, 101, 32, 97, 100, 100, 32, 102, 108, 97, 116, 116, 101, 110, 32, 116, 114, 97, 110, 115, 112, 111, 115, 101, 32, 97, 98, 115, 32, 116, 111, 97, 114, 114, 97, 121, 32]⟩ : ByteArray), .string (((⟨#[32]⟩ : ByteArray) ++ a0) ++ (⟨#[32]⟩ : ByteArray))] rfl (by (try simp only [List.map_toArray, List.map_cons, List.map_nil]); first | done | rfl | (simp only [List.length_drop, List.length_take]; rfl)) ?_; (refine (strings_Contains.calls (⟨#[32, 101, 109, 112, 116, 121, 32, 101, 114, 114, 111, 114, 32, 108, 101, 110, 103, 116, 104, 32, 117, 116, 102, 56, 98, 121, 116, 101, 108, 101, 110, 103, 116, 104, 32, 110, 111, 116, 32, 107, 101, 121, 115, 32, 116, 121, 112, 101, 32, 116, 111, 115, 116, 114, 105, 110, 103, 32, 116, 111, 110, 117, 109, 98, 101, 114, 32, 116, 111, 106, 115, 111, 110, 32, 102, 114, 111, 109, 106, 115, 111, 110, 32, 97, 115, 99, 105, 105, 95, 100, 111, 119, 110, 99, 97, 115, 101, 32, 97, 115, 99, 105, 105, 95, 117, 112, 99, 97, 115, 101, 32, 101, 120, 112, 108, 111, 100, 101, 32, 105, 109, 112, 108, 111, 100, 101, 32, 114, 101, 118, 101, 114, 115, 101, 32, 115, 111, 114, 116, 32, 109, 105, 110, 32, 109, 97, 120, 32, 117, 110, 105, 113, 117, 101, 32, 97, 100, 100, 32, 102, 108, 97, 116, 116, 101, 110, 32, 116, 114, 97, 110, 115, 112, 111, 115, 101, 32, 97, 98, 115, 32, 116, 111, 97, 114, 114, 97, 121, 32]⟩ : ByteArray) (((⟨#[32]⟩ : ByteArray) ++ a0) ++ (⟨#[32]⟩ : ByteArray)) t118 _ ?side1 A8.out).mono ?_); (case side1 => exact Tabs.of_heap HTab_.out rfl); rintro e w' ⟨rfl, ⟨nd, rfl⟩⟩; refine ⟨_, rfl, ?_⟩))
          go_ret
          exact ⟨by first | rfl | (simp; done) | (simp [*]; done), by repeat (first | exact Drawn0.refl _ | apply Drawn0.step)⟩
        · rw [if_neg c7] at H
          exact absurd H (by simp)
      · rw [if_neg c6] at H
        exact absurd H (by simp)
    · rw [if_neg c5] at H
      have c5b0 : (a1 == 0) = false := beq_eq_false_iff_ne.mpr c5
      have c5b1 : (a1 != 0) = true := bne_iff_ne.mpr c5
      by_cases c9 : a1 = 1
      · rw [if_pos c9] at H
        have c9b0 : (a1 == 1) = true := beq_iff_eq.mpr c9
        have c9b1 : (a1 != 1) = false := bne_eq_false_iff_eq.mpr c9
        clear c9
        by_cases c10 : 1 + a0.size ≤ 9223372036854775807
        · rw [if_pos c10] at H
          have c10b0 := eq_true c10
          have c10b1 : decide (1 + a0.size ≤ 9223372036854775807) = true := decide_eq_true c10
          try have c10b2 : (9223372036854775807 < 1 + a0.size) = False := eq_false (Nat.not_lt.2 c10)
          by_cases c11 : 1 + a0.size + 1 ≤ 9223372036854775807
          · rw [if_pos c11] at H
            have c11b0 := eq_true c11
            have c11b1 : decide (1 + a0.size + 1 ≤ 9223372036854775807) = true := decide_eq_true c11
            try have c11b2 : (9223372036854775807 < 1 + a0.size + 1) = False := eq_false (Nat.not_lt.2 c11)
            replace H := Option.bind_eq_some_iff.mp H
            obtain ⟨t119, A120, H⟩ := H
            replace H : (some t119) = some r := H
            have A12 := Aside0.mk A120
            clear A120
            obtain rfl := Option.some.inj H
            go_enter Try.func11, Try.ntmps11
            go_wp2_with (first | ((with_reducible refine gate_callee (f := 20) rfl ?_); refine goesL_ (some 6) rfl rfl Try.func20 (by kernel_rfl) rfl #[.string a0] rfl (by (try simp only [List.map_toArray, List.map_cons, List.map_nil]); first | done | rfl | (simp only [List.length_drop, List.length_take]; rfl)) ?_; (with_reducible refine (scope_plain.calls a0 true _ ?side1 A3.out).mono ?_); (case side1 => exact Tabs.of_heap HTab_.out rfl); rintro e w' ⟨rfl, ⟨nd, rfl⟩⟩; refine ⟨_, rfl, ?_⟩) | ((with_reducible refine gate_callee (f := 18) rfl ?_); refine goesL_ (some 20) rfl rfl Try.func18 (by kernel_rfl) rfl #[.string (⟨#[32, 101, 114, 114, 111, 114, 32, 112, 97, 116, 104, 32, 104, 97, 115, 32, 99, 111, 110, 116, 97, 105, 110, 115, 32, 115, 116, 97, 114, 116, 115, 119, 105, 116, 104, 32, 101, 110, 100, 115, 119, 105, 116, 104, 32, 108, 116, 114, 105, 109, 115, 116, 114, 32, 114, 116, 114, 105, 109, 115, 116, 114, 32, 115, 112, 108, 105, 116, 32, 106, 111, 105, 110, 32, 105, 110, 100, 105, 99, 101, 115, 32, 95, 115, 111, 114, 116, 95, 98, 121, 32, 95, 103, 114, 111, 117, 112, 95, 98, 121, 32, 95, 117, 110, 105, 113, 117, 101, 95, 98, 121, 32, 95, 109, 105, 110, 95, 98, 121, 32, 95, 109, 97, 120, 95, 98, 121, 32, 103, 101, 116, 112, 97, 116, 104, 32, 100, 101, 108, 112, 97, 116, 104, 115, 32]⟩ : ByteArray), .string (((⟨#[32]⟩ : ByteArray) ++ a0) ++ (⟨#[32]⟩ : ByteArray))] rfl (by (try simp only [List.map_toArray, List.map_cons, List.map_nil]); first | done | rfl | (simp only [List.length_drop, List.length_take]; rfl)) ?_; (refine (strings_Contains.calls (⟨#[32, 101, 114, 114, 111, 114, 32, 112, 97, 116, 104, 32, 104, 97, 115, 32, 99, 111, 110, 116, 97, 105, 110, 115, 32, 115, 116, 97, 114, 116, 115, 119, 105, 116, 104, 32, 101, 110, 100, 115, 119, 105, 116, 104, 32, 108, 116, 114, 105, 109, 115, 116, 114, 32, 114, 116, 114, 105, 109, 115, 116, 114, 32, 115, 112, 108, 105, 116, 32, 106, 111, 105, 110, 32, 105, 110, 100, 105, 99, 101, 115, 32, 95, 115, 111, 114, 116, 95, 98, 121, 32, 95, 103, 114, 111, 117, 112, 95, 98, 121, 32, 95, 117, 110, 105, 113, 117, 101, 95, 98, 121, 32, 95, 109, 105, 110, 95, 98, 121, 32, 95, 109, 97, 120, 95, 98, 121, 32, 103, 101, 116, 112, 97, 116, 104, 32, 100, 101, 108, 112, 97, 116, 104, 115, 32]⟩ : ByteArray) (((⟨#[32]⟩ : ByteArray) ++ a0) ++ (⟨#[32]⟩ : ByteArray)) t119 _ ?side1 A12.out).mono ?_); (case side1 => exact Tabs.of_heap HTab_.out rfl); rintro e w' ⟨rfl, ⟨nd, rfl⟩⟩; refine ⟨_, rfl, ?_⟩))
            go_ret
            exact ⟨by first | rfl | (simp; done) | (simp [*]; done), by repeat (first | exact Drawn0.refl _ | apply Drawn0.step)⟩
          · rw [if_neg c11] at H
            exact absurd H (by simp)
        · rw [if_neg c10] at H
          exact absurd H (by simp)
      · rw [if_neg c9] at H
        have c9b0 : (a1 == 1) = false := beq_eq_false_iff_ne.mpr c9
        have c9b1 : (a1 != 1) = true := bne_iff_ne.mpr c9
        by_cases c13 : a1 = 2
        · rw [if_pos c13] at H
          have c13b0 : (a1 == 2) = true := beq_iff_eq.mpr c13
          have c13b1 : (a1 != 2) = false := bne_eq_false_iff_eq.mpr c13
          clear c13
          by_cases c14 : 1 + a0.size ≤ 9223372036854775807
          · rw [if_pos c14] at H
            have c14b0 := eq_true c14
            have c14b1 : decide (1 + a0.size ≤ 9223372036854775807) = true := decide_eq_true c14
            try have c14b2 : (9223372036854775807 < 1 + a0.size) = False := eq_false (Nat.not_lt.2 c14)
            by_cases c15 : 1 + a0.size + 1 ≤ 9223372036854775807
            · rw [if_pos c15] at H
              have c15b0 := eq_true c15
              have c15b1 : decide (1 + a0.size + 1 ≤ 9223372036854775807) = true := decide_eq_true c15
              try have c15b2 : (9223372036854775807 < 1 + a0.size + 1) = False := eq_false (Nat.not_lt.2 c15)
              replace H := Option.bind_eq_some_iff.mp H
              obtain ⟨t120, A160, H⟩ := H
              replace H : (some t120) = some r := H
              have A16 := Aside0.mk A160
              clear A160
              obtain rfl := Option.some.inj H
              go_enter Try.func11, Try.ntmps11
              go_wp2_with (first | ((with_reducible refine gate_callee (f := 20) rfl ?_); refine goesL_ (some 6) rfl rfl Try.func20 (by kernel_rfl) rfl #[.string a0] rfl (by (try simp only [List.map_toArray, List.map_cons, List.map_nil]); first | done | rfl | (simp only [List.length_drop, List.length_take]; rfl)) ?_; (with_reducible refine (scope_plain.calls a0 true _ ?side1 A3.out).mono ?_); (case side1 => exact Tabs.of_heap HTab_.out rfl); rintro e w' ⟨rfl, ⟨nd, rfl⟩⟩; refine ⟨_, rfl, ?_⟩) | ((with_reducible refine gate_callee (f := 18) rfl ?_); refine goesL_ (some 26) rfl rfl Try.func18 (by kernel_rfl) rfl #[.string (⟨#[32, 114, 97, 110, 103, 101, 32, 115, 101, 116, 112, 97, 116, 104, 32]⟩ : ByteArray), .string (((⟨#[32]⟩ : ByteArray) ++ a0) ++ (⟨#[32]⟩ : ByteArray))] rfl (by (try simp only [List.map_toArray, List.map_cons, List.map_nil]); first | done | rfl | (simp only [List.length_drop, List.length_take]; rfl)) ?_; (with_reducible refine (strings_Contains.calls (⟨#[32, 114, 97, 110, 103, 101, 32, 115, 101, 116, 112, 97, 116, 104, 32]⟩ : ByteArray) (((⟨#[32]⟩ : ByteArray) ++ a0) ++ (⟨#[32]⟩ : ByteArray)) t120 _ ?side1 A16.out).mono ?_); (case side1 => exact Tabs.of_heap HTab_.out rfl); rintro e w' ⟨rfl, ⟨nd, rfl⟩⟩; refine ⟨_, rfl, ?_⟩))
              go_ret
              exact ⟨by first | rfl | (simp; done) | (simp [*]; done), by repeat (first | exact Drawn0.refl _ | apply Drawn0.step)⟩
            · rw [if_neg c15] at H
              exact absurd H (by simp)
          · rw [if_neg c14] at H
            exact absurd H (by simp)
        · rw [if_neg c13] at H
          have c13b0 : (a1 == 2) = false := beq_eq_false_iff_ne.mpr c13
          have c13b1 : (a1 != 2) = true := bne_iff_ne.mpr c13
          obtain rfl := Option.some.inj H
          go_enter Try.func11, Try.ntmps11
          go_wp2_with (first | ((with_reducible refine gate_callee (f := 20) rfl ?_); refine goesL_ (some 6) rfl rfl Try.func20 (by kernel_rfl) rfl #[.string a0] rfl (by (try simp only [List.map_toArray, List.map_cons, List.map_nil]); first | done | rfl | (simp only [List.length_drop, List.length_take]; rfl)) ?_; (with_reducible refine (scope_plain.calls a0 true _ ?side1 A3.out).mono ?_); (case side1 => exact Tabs.of_heap HTab_.out rfl); rintro e w' ⟨rfl, ⟨nd, rfl⟩⟩; refine ⟨_, rfl, ?_⟩))
          go_ret
          exact ⟨by first | rfl | (simp; done) | (simp [*]; done), by repeat (first | exact Drawn0.refl _ | apply Drawn0.step)⟩
  · replace c4 := Bool.eq_false_iff.mpr c4
    subst c4
    have H1 : (some false) = some r := by rw [if_neg (show ¬ (false = true) by decide)] at H; exact H
    clear H
    have H := H1
    clear H1
    obtain rfl := Option.some.inj H
    go_enter Try.func11, Try.ntmps11
    go_wp2_with (first | ((with_reducible refine gate_callee (f := 20) rfl ?_); refine goesL_ (some 6) rfl rfl Try.func20 (by kernel_rfl) rfl #[.string a0] rfl (by (try simp only [List.map_toArray, List.map_cons, List.map_nil]); first | done | rfl | (simp only [List.length_drop, List.length_take]; rfl)) ?_; (with_reducible refine (scope_plain.calls a0 false _ ?side1 A3.out).mono ?_); (case side1 => exact Tabs.of_heap HTab_.out rfl); rintro e w' ⟨rfl, ⟨nd, rfl⟩⟩; refine ⟨_, rfl, ?_⟩))
    go_ret
    exact ⟨by first | rfl | (simp; done) | (simp [*]; done), by repeat (first | exact Drawn0.refl _ | apply Drawn0.step)⟩

/-! ### hallmarklaw19_ScopeBuiltin: function 6 -/
def hallmarklaw19_ScopeBuiltin.f (a0 : ByteArray) (a1 : Int) : Option (Bool) := (scope_Builtin.f a0 a1).bind fun t121 => ((hallmarkref19_Builtin.f a0 a1).bind fun t122 => (if (t121 == t122) = true then ((scope_Builtin.f (⟨#[112, 97, 116, 104]⟩ : ByteArray) 1).bind fun t123 => (if t123 = true then ((scope_Builtin.f (⟨#[112, 97, 116, 104]⟩ : ByteArray) 0).bind fun t124 => (some (!t124))) else (some false))) else (some false)))
set_option maxHeartbeats 8000000 in
set_option maxRecDepth 100000 in
theorem hallmarklaw19_ScopeBuiltin.calls (a0 : ByteArray) (a1 : Int) (r : Bool) (w : World) (hT : Tabs w) (h : hallmarklaw19_ScopeBuiltin.f a0 a1 = some r) :
    Calls Try.prog 6 #[.string a0, .int .i64 a1] w fun e w' => e = .returned (.bool r) ∧ Drawn0 w w' := by
  have HTab_ := Aside0.mk hT
  clear hT
  have H : ((scope_Builtin.f a0 a1).bind fun t121 => ((hallmarkref19_Builtin.f a0 a1).bind fun t122 => (if (t121 == t122) = true then ((scope_Builtin.f (⟨#[112, 97, 116, 104]⟩ : ByteArray) 1).bind fun t123 => (if t123 = true then ((scope_Builtin.f (⟨#[112, 97, 116, 104]⟩ : ByteArray) 0).bind fun t124 => (some (!t124))) else (some false))) else (some false)))) = some r := h
  clear h
  replace H := Option.bind_eq_some_iff.mp H
  obtain ⟨t121, A30, H⟩ := H
  replace H : ((hallmarkref19_Builtin.f a0 a1).bind fun t122 => (if (t121 == t122) = true then ((scope_Builtin.f (⟨#[112, 97, 116, 104]⟩ : ByteArray) 1).bind fun t123 => (if t123 = true then ((scope_Builtin.f (⟨#[112, 97, 116, 104]⟩ : ByteArray) 0).bind fun t124 => (some (!t124))) else (some false))) else (some false))) = some r := H
  have A3 := Aside0.mk A30
  clear A30
  replace H := Option.bind_eq_some_iff.mp H
  obtain ⟨t122, A40, H⟩ := H
  replace H : (if (t121 == t122) = true then ((scope_Builtin.f (⟨#[112, 97, 116, 104]⟩ : ByteArray) 1).bind fun t123 => (if t123 = true then ((scope_Builtin.f (⟨#[112, 97, 116, 104]⟩ : ByteArray) 0).bind fun t124 => (some (!t124))) else (some false))) else (some false)) = some r := H
  have A4 := Aside0.mk A40
  clear A40
  by_cases c5 : (t121 == t122) = true
  · rw [if_pos c5] at H
    have c5b0 : (t121 == t122) = true := c5
    (try (have c5b1 : decide (t121 = t122) = true := by simpa using c5))
    (try (have c5b2 : (t121 == t122) = true := by simpa using c5))
    clear c5
    replace H := Option.bind_eq_some_iff.mp H
    obtain ⟨t123, A60, H⟩ := H
    replace H : (if t123 = true then ((scope_Builtin.f (⟨#[112, 97, 116, 104]⟩ : ByteArray) 0).bind fun t124 => (some (!t124))) else (some false)) = some r := H
    have A6 := Aside0.mk A60
    clear A60
    by_cases c7 : t123 = true
    · subst c7
      have H1 : ((scope_Builtin.f (⟨#[112, 97, 116, 104]⟩ : ByteArray) 0).bind fun t124 => (some (!t124))) = some r := by rw [if_pos rfl] at H; exact H
      clear H
      have H := H1
      clear H1
      replace H := Option.bind_eq_some_iff.mp H
      obtain ⟨t124, A80, H⟩ := H
      replace H : (some (!t124)) = some r := H
      have A8 := Aside0.mk A80
      clear A80
      obtain rfl := Option.some.inj H
      go_enter Try.func6, Try.ntmps6
      go_wp2_with (first | ((with_reducible refine gate_callee (f := 11) rfl ?_); refine goesL_ (some 7) rfl rfl Try.func11 (by kernel_rfl) rfl #[.string a0, .int .i64 a1] rfl (by (try simp only [List.map_toArray, List.map_cons, List.map_nil]); first | done | rfl | (simp only [List.length_drop, List.length_take]; rfl)) ?_; (with_reducible refine (scope_Builtin.calls a0 a1 t121 _ ?side1 A3.out).mono ?_); (case side1 => exact Tabs.of_heap HTab_.out rfl); rintro e w' ⟨rfl, ⟨nd, rfl⟩⟩; refine ⟨_, rfl, ?_⟩) | ((with_reducible refine gate_callee (f := 12) rfl ?_); refine goesL_ (some 10) rfl rfl Try.func12 (by kernel_rfl) rfl #[.string a0, .int .i64 a1] rfl (by (try simp only [List.map_toArray, List.map_cons, List.map_nil]); first | done | rfl | (simp only [List.length_drop, List.length_take]; rfl)) ?_; (with_reducible refine (hallmarkref19_Builtin.calls a0 a1 t122 _ A4.out).mono ?_); rintro e w' ⟨rfl, ⟨nd, rfl⟩⟩; refine ⟨_, rfl, ?_⟩) | (go_at_call 11; (with_reducible refine (scope_Builtin.calls (⟨#[112, 97, 116, 104]⟩ : ByteArray) 1 true _ ?side1 A6.out).mono ?_); (case side1 => exact Tabs.of_heap HTab_.out rfl); rintro e w' ⟨rfl, ⟨nd, rfl⟩⟩) | (go_at_call 11; (with_reducible refine (scope_Builtin.calls (⟨#[112, 97, 116, 104]⟩ : ByteArray) 0 t124 _ ?side1 A8.out).mono ?_); (case side1 => exact Tabs.of_heap HTab_.out rfl); rintro e w' ⟨rfl, ⟨nd, rfl⟩⟩))
      go_ret
      exact ⟨by first | rfl | (simp; done) | (simp [*]; done), by repeat (first | exact Drawn0.refl _ | apply Drawn0.step)⟩
    · replace c7 := Bool.eq_false_iff.mpr c7
      subst c7
      have H1 : (some false) = some r := by rw [if_neg (show ¬ (false = true) by decide)] at H; exact H
      clear H
      have H := H1
      clear H1
      obtain rfl := Option.some.inj H
      go_enter Try.func6, Try.ntmps6
      go_wp2_with (first | ((with_reducible refine gate_callee (f := 11) rfl ?_); refine goesL_ (some 7) rfl rfl Try.func11 (by kernel_rfl) rfl #[.string a0, .int .i64 a1] rfl (by (try simp only [List.map_toArray, List.map_cons, List.map_nil]); first | done | rfl | (simp only [List.length_drop, List.length_take]; rfl)) ?_; (with_reducible refine (scope_Builtin.calls a0 a1 t121 _ ?side1 A3.out).mono ?_); (case side1 => exact Tabs.of_heap HTab_.out rfl); rintro e w' ⟨rfl, ⟨nd, rfl⟩⟩; refine ⟨_, rfl, ?_⟩) | ((with_reducible refine gate_callee (f := 12) rfl ?_); refine goesL_ (some 10) rfl rfl Try.func12 (by kernel_rfl) rfl #[.string a0, .int .i64 a1] rfl (by (try simp only [List.map_toArray, List.map_cons, List.map_nil]); first | done | rfl | (simp only [List.length_drop, List.length_take]; rfl)) ?_; (with_reducible refine (hallmarkref19_Builtin.calls a0 a1 t122 _ A4.out).mono ?_); rintro e w' ⟨rfl, ⟨nd, rfl⟩⟩; refine ⟨_, rfl, ?_⟩) | (go_at_call 11; (with_reducible refine (scope_Builtin.calls (⟨#[112, 97, 116, 104]⟩ : ByteArray) 1 false _ ?side1 A6.out).mono ?_); (case side1 => exact Tabs.of_heap HTab_.out rfl); rintro e w' ⟨rfl, ⟨nd, rfl⟩⟩))
      go_ret
      exact ⟨by first | rfl | (simp; done) | (simp [*]; done), by repeat (first | exact Drawn0.refl _ | apply Drawn0.step)⟩
  · rw [if_neg c5] at H
    have c5b0 : (t121 == t122) = false := by simpa using c5
    (try (have c5b1 : decide (t121 = t122) = false := by simpa using c5))
    (try (have c5b2 : (t121 == t122) = false := by simpa using c5))
    (try (have c5b3 : ¬ (t121 = t122) := by simpa using c5))
    clear c5
    obtain rfl := Option.some.inj H
    go_enter Try.func6, Try.ntmps6
    go_wp2_with (first | ((with_reducible refine gate_callee (f := 11) rfl ?_); refine goesL_ (some 7) rfl rfl Try.func11 (by kernel_rfl) rfl #[.string a0, .int .i64 a1] rfl (by (try simp only [List.map_toArray, List.map_cons, List.map_nil]); first | done | rfl | (simp only [List.length_drop, List.length_take]; rfl)) ?_; (with_reducible refine (scope_Builtin.calls a0 a1 t121 _ ?side1 A3.out).mono ?_); (case side1 => exact Tabs.of_heap HTab_.out rfl); rintro e w' ⟨rfl, ⟨nd, rfl⟩⟩; refine ⟨_, rfl, ?_⟩) | ((with_reducible refine gate_callee (f := 12) rfl ?_); refine goesL_ (some 10) rfl rfl Try.func12 (by kernel_rfl) rfl #[.string a0, .int .i64 a1] rfl (by (try simp only [List.map_toArray, List.map_cons, List.map_nil]); first | done | rfl | (simp only [List.length_drop, List.length_take]; rfl)) ?_; (with_reducible refine (hallmarkref19_Builtin.calls a0 a1 t122 _ A4.out).mono ?_); rintro e w' ⟨rfl, ⟨nd, rfl⟩⟩; refine ⟨_, rfl, ?_⟩))
    go_ret
    exact ⟨by first | rfl | (simp; done) | (simp [*]; done), by repeat (first | exact Drawn0.refl _ | apply Drawn0.step)⟩

end Go.Proofs.Ytikldgckdlnkpaa.U
