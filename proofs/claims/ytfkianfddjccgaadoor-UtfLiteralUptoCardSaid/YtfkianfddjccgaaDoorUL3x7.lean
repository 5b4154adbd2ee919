-- Written by wip/xprint.py (the kit's printer with hooks) out of the translation; Lean checks it.
import Derived.Test.YtfkianfddjccgaaDoorU0
import Derived.Test.YtfkianfddjccgaaDoorTabs
import Derived.Test.YtfkianfddjccgaaDoorEQuote
import Derived.Test.YtfkianfddjccgaaDoorERunes
import Derived.Test.YtfkianfddjccgaaDoorEText
import Derived.Test.YtfkianfddjccgaaDoorEUnquote
import Derived.Test.YtfkianfddjccgaaDoorEValid
import Derived.Test.YtfkianfddjccgaaDoorUL3x0
namespace Go.Proofs.YtfkianfddjccgaaDoor.U
open Go.RowKit Go.Proofs.YtfkianfddjccgaaDoorW.PrintWords Go.Proofs.YtfkianfddjccgaaDoorW.PrintLast Go.Proofs.YtfkianfddjccgaaDoorW.PrintMore
attribute [local go_sem] max2_int min2_int max_two min_two max_three min_three max_four min_four   -- for this text's walks alone
set_option linter.unusedVariables false
set_option linter.unusedSimpArgs false

/-! ### hallmarklaw02_UtfLiteral: function 10 -/
mutual
def hallmarklaw02_UtfLiteral.j0 : Nat → ByteArray → Bool → Option (Bool)
  | 0, _, _ => none
  | k + 1, x7, x58 => if x58 = true then (some false) else (hallmarklaw02_UtfLiteral.l0 k x7 0)
def hallmarklaw02_UtfLiteral.l0 : Nat → ByteArray → Int → Option (Bool)
  | 0, _, _ => none
  | k + 1, x7, x12 => if x12 < (x7.size : Int) then (if 0 ≤ x12 then (if (bt x7 x12) < 32 then (some false) else (if (bt x7 x12) = 127 then (some false) else (hallmarklaw02_UtfLiteral.l0 k x7 (wrap64 (x12 + 1))))) else (none)) else (some true)
end
def hallmarklaw02_UtfLiteral.f (k : Nat) (a0 : ByteArray) (a1 : ByteArray) (a2 : ByteArray) : Option (Bool) := (hallmarklaw02_fixed.f k).bind fun t260 => (if t260 = true then ((utf_Quote.f a0).bind fun t261 => ((utf_Runes.f a0).bind fun t262 => ((utf_Text.f t262).bind fun t265 => (if a1.size + t261.size ≤ 9223372036854775807 then (if a1.size + t261.size + a2.size ≤ 9223372036854775807 then ((utf_Unquote.f ((a1 ++ t261) ++ a2) (a1.size : Int)).bind fun bt266 => (if bt266.1.toList = t265.toList then (if bt266.2.1 = ((a1.size : Int) + (t261.size : Int)) then (if bt266.2.2 = 0 then ((utf_Valid.f t261).bind fun t269 => (if t269 = true then ((utf_Quote.f bt266.1).bind fun t270 => (hallmarklaw02_UtfLiteral.j0 k t261 (t270.toList != t261.toList))) else (hallmarklaw02_UtfLiteral.j0 k t261 true))) else (hallmarklaw02_UtfLiteral.j0 k t261 true)) else (hallmarklaw02_UtfLiteral.j0 k t261 true)) else (hallmarklaw02_UtfLiteral.j0 k t261 true))) else (none)) else (none))))) else (some false))
theorem hallmarklaw02_UtfLiteral.mono_l : ∀ k, (∀ y0 y1, LeO (hallmarklaw02_UtfLiteral.j0 k y0 y1) (hallmarklaw02_UtfLiteral.j0 (k + 1) y0 y1)) ∧ (∀ y0 y1, LeO (hallmarklaw02_UtfLiteral.l0 k y0 y1) (hallmarklaw02_UtfLiteral.l0 (k + 1) y0 y1))
  | 0 => ⟨fun _ _ r h => by simp [hallmarklaw02_UtfLiteral.j0] at h, fun _ _ r h => by simp [hallmarklaw02_UtfLiteral.l0] at h⟩
  | k + 1 => by
    obtain ⟨ih0, ih1⟩ := hallmarklaw02_UtfLiteral.mono_l k
    refine ⟨?_, ?_⟩
    · intro y0 y1
      unfold hallmarklaw02_UtfLiteral.j0
      repeat' first
      | (with_reducible exact ih0 _ _)
      | (with_reducible exact ih1 _ _)
      | (with_reducible exact hallmarklaw02_fixed.mono _)
      | (with_reducible exact LeO.refl _)
      | (with_reducible exact LeO.none _)
      | (with_reducible refine LeO.ite ?_ ?_)
      | (with_reducible refine LeO.bind ?_ (fun _ => ?_))
      | exact ih0 _ _
      | exact ih1 _ _
      | exact hallmarklaw02_fixed.mono _
      | exact LeO.none _
      | refine LeO.ite ?_ ?_
      | refine LeO.bind ?_ (fun _ => ?_)
    · intro y0 y1
      unfold hallmarklaw02_UtfLiteral.l0
      repeat' first
      | (with_reducible exact ih0 _ _)
      | (with_reducible exact ih1 _ _)
      | (with_reducible exact hallmarklaw02_fixed.mono _)
      | (with_reducible exact LeO.refl _)
      | (with_reducible exact LeO.none _)
      | (with_reducible refine LeO.ite ?_ ?_)
      | (with_reducible refine LeO.bind ?_ (fun _ => ?_))
      | exact ih0 _ _
      | exact ih1 _ _
      | exact hallmarklaw02_fixed.mono _
      | exact LeO.none _
      | refine LeO.ite ?_ ?_
      | refine LeO.bind ?_ (fun _ => ?_)
theorem hallmarklaw02_UtfLiteral.mono : ∀ a0 a1 a2 k, LeO (hallmarklaw02_UtfLiteral.f k a0 a1 a2) (hallmarklaw02_UtfLiteral.f (k + 1) a0 a1 a2) := by
  intro a0 a1 a2 k
  obtain ⟨ih0, ih1⟩ := hallmarklaw02_UtfLiteral.mono_l k
  unfold hallmarklaw02_UtfLiteral.f
  repeat' first
      | (with_reducible exact ih0 _ _)
      | (with_reducible exact ih1 _ _)
      | (with_reducible exact hallmarklaw02_fixed.mono _)
      | (with_reducible exact LeO.refl _)
      | (with_reducible exact LeO.none _)
      | (with_reducible refine LeO.ite ?_ ?_)
      | (with_reducible refine LeO.bind ?_ (fun _ => ?_))
      | exact ih0 _ _
      | exact ih1 _ _
      | exact hallmarklaw02_fixed.mono _
      | exact LeO.none _
      | refine LeO.ite ?_ ?_
      | refine LeO.bind ?_ (fun _ => ?_)
set_option maxHeartbeats 8000000 in
set_option maxRecDepth 100000 in
theorem hallmarklaw02_UtfLiteral.calls (k : Nat) (a0 : ByteArray) (a1 : ByteArray) (a2 : ByteArray) (r : Bool) (w : World) (hT : Tabs w) (h : hallmarklaw02_UtfLiteral.f k a0 a1 a2 = some r) :
    Calls Tryd.prog 10 #[.string a0, .string a1, .string a2] w fun e w' => e = .returned (.bool r) ∧ Below w.heap.size w w' := by
  have HB := Aside0.mk (Below.refl w.heap.size w)
  have HTab_ := Aside0.mk hT
  clear hT
  have H : ((hallmarklaw02_fixed.f k).bind fun t260 => (if t260 = true then ((utf_Quote.f a0).bind fun t261 => ((utf_Runes.f a0).bind fun t262 => ((utf_Text.f t262).bind fun t265 => (if a1.size + t261.size ≤ 9223372036854775807 then (if a1.size + t261.size + a2.size ≤ 9223372036854775807 then ((utf_Unquote.f ((a1 ++ t261) ++ a2) (a1.size : Int)).bind fun bt266 => (if bt266.1.toList = t265.toList then (if bt266.2.1 = ((a1.size : Int) + (t261.size : Int)) then (if bt266.2.2 = 0 then ((utf_Valid.f t261).bind fun t269 => (if t269 = true then ((utf_Quote.f bt266.1).bind fun t270 => (hallmarklaw02_UtfLiteral.j0 k t261 (t270.toList != t261.toList))) else (hallmarklaw02_UtfLiteral.j0 k t261 true))) else (hallmarklaw02_UtfLiteral.j0 k t261 true)) else (hallmarklaw02_UtfLiteral.j0 k t261 true)) else (hallmarklaw02_UtfLiteral.j0 k t261 true))) else (none)) else (none))))) else (some false))) = some r := h
  clear h
  replace H := Option.bind_eq_some_iff.mp H
  obtain ⟨t260, A40, H⟩ := H
  replace H : (if t260 = true then ((utf_Quote.f a0).bind fun t261 => ((utf_Runes.f a0).bind fun t262 => ((utf_Text.f t262).bind fun t265 => (if a1.size + t261.size ≤ 9223372036854775807 then (if a1.size + t261.size + a2.size ≤ 9223372036854775807 then ((utf_Unquote.f ((a1 ++ t261) ++ a2) (a1.size : Int)).bind fun bt266 => (if bt266.1.toList = t265.toList then (if bt266.2.1 = ((a1.size : Int) + (t261.size : Int)) then (if bt266.2.2 = 0 then ((utf_Valid.f t261).bind fun t269 => (if t269 = true then ((utf_Quote.f bt266.1).bind fun t270 => (hallmarklaw02_UtfLiteral.j0 k t261 (t270.toList != t261.toList))) else (hallmarklaw02_UtfLiteral.j0 k t261 true))) else (hallmarklaw02_UtfLiteral.j0 k t261 true)) else (hallmarklaw02_UtfLiteral.j0 k t261 true)) else (hallmarklaw02_UtfLiteral.j0 k t261 true))) else (none)) else (none))))) else (some false)) = some r := H
  have A4 := Aside0.mk A40
  clear A40
  by_cases c5 : t260 = true
  · subst c5
    have H1 : ((utf_Quote.f a0).bind fun t261 => ((utf_Runes.f a0).bind fun t262 => ((utf_Text.f t262).bind fun t265 => (if a1.size + t261.size ≤ 9223372036854775807 then (if a1.size + t261.size + a2.size ≤ 9223372036854775807 then ((utf_Unquote.f ((a1 ++ t261) ++ a2) (a1.size : Int)).bind fun bt266 => (if bt266.1.toList = t265.toList then (if bt266.2.1 = ((a1.size : Int) + (t261.size : Int)) then (if bt266.2.2 = 0 then ((utf_Valid.f t261).bind fun t269 => (if t269 = true then ((utf_Quote.f bt266.1).bind fun t270 => (hallmarklaw02_UtfLiteral.j0 k t261 (t270.toList != t261.toList))) else (hallmarklaw02_UtfLiteral.j0 k t261 true))) else (hallmarklaw02_UtfLiteral.j0 k t261 true)) else (hallmarklaw02_UtfLiteral.j0 k t261 true)) else (hallmarklaw02_UtfLiteral.j0 k t261 true))) else (none)) else (none))))) = some r := by rw [if_pos rfl] at H; exact H
    clear H
    have H := H1
    clear H1
    replace H := Option.bind_eq_some_iff.mp H
    obtain ⟨t261, A60, H⟩ := H
    replace H : ((utf_Runes.f a0).bind fun t262 => ((utf_Text.f t262).bind fun t265 => (if a1.size + t261.size ≤ 9223372036854775807 then (if a1.size + t261.size + a2.size ≤ 9223372036854775807 then ((utf_Unquote.f ((a1 ++ t261) ++ a2) (a1.size : Int)).bind fun bt266 => (if bt266.1.toList = t265.toList then (if bt266.2.1 = ((a1.size : Int) + (t261.size : Int)) then (if bt266.2.2 = 0 then ((utf_Valid.f t261).bind fun t269 => (if t269 = true then ((utf_Quote.f bt266.1).bind fun t270 => (hallmarklaw02_UtfLiteral.j0 k t261 (t270.toList != t261.toList))) else (hallmarklaw02_UtfLiteral.j0 k t261 true))) else (hallmarklaw02_UtfLiteral.j0 k t261 true)) else (hallmarklaw02_UtfLiteral.j0 k t261 true)) else (hallmarklaw02_UtfLiteral.j0 k t261 true))) else (none)) else (none)))) = some r := H
    have A6 := Aside0.mk A60
    clear A60
    replace H := Option.bind_eq_some_iff.mp H
    obtain ⟨t262, A70, H⟩ := H
    replace H : ((utf_Text.f t262).bind fun t265 => (if a1.size + t261.size ≤ 9223372036854775807 then (if a1.size + t261.size + a2.size ≤ 9223372036854775807 then ((utf_Unquote.f ((a1 ++ t261) ++ a2) (a1.size : Int)).bind fun bt266 => (if bt266.1.toList = t265.toList then (if bt266.2.1 = ((a1.size : Int) + (t261.size : Int)) then (if bt266.2.2 = 0 then ((utf_Valid.f t261).bind fun t269 => (if t269 = true then ((utf_Quote.f bt266.1).bind fun t270 => (hallmarklaw02_UtfLiteral.j0 k t261 (t270.toList != t261.toList))) else (hallmarklaw02_UtfLiteral.j0 k t261 true))) else (hallmarklaw02_UtfLiteral.j0 k t261 true)) else (hallmarklaw02_UtfLiteral.j0 k t261 true)) else (hallmarklaw02_UtfLiteral.j0 k t261 true))) else (none)) else (none))) = some r := H
    have A7 := Aside0.mk A70
    clear A70
    replace H := Option.bind_eq_some_iff.mp H
    obtain ⟨t265, A80, H⟩ := H
    replace H : (if a1.size + t261.size ≤ 9223372036854775807 then (if a1.size + t261.size + a2.size ≤ 9223372036854775807 then ((utf_Unquote.f ((a1 ++ t261) ++ a2) (a1.size : Int)).bind fun bt266 => (if bt266.1.toList = t265.toList then (if bt266.2.1 = ((a1.size : Int) + (t261.size : Int)) then (if bt266.2.2 = 0 then ((utf_Valid.f t261).bind fun t269 => (if t269 = true then ((utf_Quote.f bt266.1).bind fun t270 => (hallmarklaw02_UtfLiteral.j0 k t261 (t270.toList != t261.toList))) else (hallmarklaw02_UtfLiteral.j0 k t261 true))) else (hallmarklaw02_UtfLiteral.j0 k t261 true)) else (hallmarklaw02_UtfLiteral.j0 k t261 true)) else (hallmarklaw02_UtfLiteral.j0 k t261 true))) else (none)) else (none)) = some r := H
    have A8 := Aside0.mk A80
    clear A80
    by_cases c9 : a1.size + t261.size ≤ 9223372036854775807
    · rw [if_pos c9] at H
      have c9b0 := eq_true c9
      have c9b1 : decide (a1.size + t261.size ≤ 9223372036854775807) = true := decide_eq_true c9
      try have c9b2 : (9223372036854775807 < a1.size + t261.size) = False := eq_false (Nat.not_lt.2 c9)
      by_cases c10 : a1.size + t261.size + a2.size ≤ 9223372036854775807
      · rw [if_pos c10] at H
        have c10b0 := eq_true c10
        have c10b1 : decide (a1.size + t261.size + a2.size ≤ 9223372036854775807) = true := decide_eq_true c10
        try have c10b2 : (9223372036854775807 < a1.size + t261.size + a2.size) = False := eq_false (Nat.not_lt.2 c10)
        replace H := Option.bind_eq_some_iff.mp H
        obtain ⟨⟨t266, t267, t268⟩, A110, H⟩ := H
        replace H : (if t266.toList = t265.toList then (if t267 = ((a1.size : Int) + (t261.size : Int)) then (if t268 = 0 then ((utf_Valid.f t261).bind fun t269 => (if t269 = true then ((utf_Quote.f t266).bind fun t270 => (hallmarklaw02_UtfLiteral.j0 k t261 (t270.toList != t261.toList))) else (hallmarklaw02_UtfLiteral.j0 k t261 true))) else (hallmarklaw02_UtfLiteral.j0 k t261 true)) else (hallmarklaw02_UtfLiteral.j0 k t261 true)) else (hallmarklaw02_UtfLiteral.j0 k t261 true)) = some r := H
        have A11 := Aside0.mk A110
        clear A110
        have HC12 := Aside0.mk H
        clear H
        go_enter Tryd.func10, Tryd.ntmps10
        go_upto_region 6 with (first | ((with_reducible refine gate_callee (f := 17) rfl ?_); refine goesL_ (some 13) rfl rfl Tryd.func17 (by kernel_rfl) rfl #[] rfl (by (try simp only [List.map_toArray, List.map_cons, List.map_nil]); first | done | rfl | (simp only [List.length_drop, List.length_take]; rfl)) ?_; (with_reducible refine (hallmarklaw02_fixed.calls k  true _ ?side1 A4.out).mono ?_); (case side1 => exact Tabs.below HTab_.out (by repeat (first | (with_reducible first | exact HB.out | apply below_alloc | apply pw_below_drewN | apply below_drew1) | exact HB.out))); rintro e w13 ⟨rfl, hb⟩; refine ⟨_, rfl, ?_⟩; have n0_ := Aside0.mk (below_step (by repeat (first | (with_reducible first | exact HB.out | apply below_alloc | apply pw_below_drewN | apply below_drew1) | exact HB.out)) hb); clear HB; have HB := n0_; clear n0_; (try clear hb); (try clear hb2); (try clear hk); (try clear hi)) | ((with_reducible refine gate_callee (f := 22) rfl ?_); refine goesL_ (some 16) rfl rfl Tryd.func22 (by kernel_rfl) rfl #[.string a0] rfl (by (try simp only [List.map_toArray, List.map_cons, List.map_nil]); first | done | rfl | (simp only [List.length_drop, List.length_take]; rfl)) ?_; (with_reducible refine (utf_Quote.calls a0 t261 _ A6.out).mono ?_); rintro e w14 ⟨rfl, hb⟩; refine ⟨_, rfl, ?_⟩; have n0_ := Aside0.mk (below_step (by repeat (first | (with_reducible first | exact HB.out | apply below_alloc | apply pw_below_drewN | apply below_drew1) | exact HB.out)) hb); clear HB; have HB := n0_; clear n0_; (try clear hb); (try clear hb2); (try clear hk); (try clear hi)) | ((with_reducible refine gate_callee (f := 31) rfl ?_); refine goesL_ (some 18) rfl rfl Tryd.func31 (by kernel_rfl) rfl #[.string a0] rfl (by (try simp only [List.map_toArray, List.map_cons, List.map_nil]); first | done | rfl | (simp only [List.length_drop, List.length_take]; rfl)) ?_; (with_reducible refine (utf_Runes.calls a0 t262 _ A7.out).mono ?_); rintro e w15 ⟨v263, rfl, ho0, hb⟩; refine ⟨_, rfl, ?_⟩; have n0_ := Aside0.mk (Kd.R_lower ho0 (below_size (by repeat (first | (with_reducible first | exact HB.out | apply below_alloc | apply pw_below_drewN | apply below_drew1) | exact HB.out)))); have n1_ := Aside0.mk (below_step (by repeat (first | (with_reducible first | exact HB.out | apply below_alloc | apply pw_below_drewN | apply below_drew1) | exact HB.out)) hb); clear HB; have HO264 := n0_; have HB := n1_; clear n0_ n1_; (try clear hb); (try clear hb2); (try clear hk); (try clear hi); (try clear ho0); obtain ⟨Ao16, co16, eo16⟩ := Kd.R_slice HO264.out; subst eo16) | ((with_reducible refine gate_callee (f := 28) rfl ?_); refine goesL_ (some 19) rfl rfl Tryd.func28 (by kernel_rfl) rfl #[.slice Ao16 t262.length co16] rfl (by (try simp only [List.map_toArray, List.map_cons, List.map_nil]); first | done | rfl | (simp only [List.length_drop, List.length_take]; rfl)) ?_; (with_reducible refine (utf_Text.calls _ _ t262 t265 _ ?side1 ?side2 A8.out).mono ?_); (case side1 => repeat (first | exact (Kd.R_reads' HO264.out).2.2 | (with_reducible refine Kd.C_alloc ?_ _) | (with_reducible refine Kd.C_drewN ?_ _) | (with_reducible refine Kd.C_drew ?_))); (case side2 => exact (Kd.R_reads' HO264.out).2.1); rintro e w17 ⟨rfl, hb⟩; refine ⟨_, rfl, ?_⟩; have n0_ := Aside0.mk (Kd.R_below (by (with_reducible repeat (first | apply Kd.R_alloc | apply Kd.R_drewN | apply Kd.R_drew)); exact HO264.out) hb); have n1_ := Aside0.mk (below_step (by repeat (first | (with_reducible first | exact HB.out | apply below_alloc | apply pw_below_drewN | apply below_drew1) | exact HB.out)) hb); clear HO264; clear HB; have HO264 := n0_; have HB := n1_; clear n0_ n1_; (try clear hb); (try clear hb2); (try clear hk); (try clear hi)) | ((with_reducible refine gate_callee (f := 21) rfl ?_); refine goesL_ (some 28) rfl rfl Tryd.func21 (by kernel_rfl) rfl #[.string ((a1 ++ t261) ++ a2), .int .i64 (a1.size : Int)] rfl (by (try simp only [List.map_toArray, List.map_cons, List.map_nil]); first | done | rfl | (simp only [List.length_drop, List.length_take]; rfl)) ?_; (with_reducible refine (utf_Unquote.calls ((a1 ++ t261) ++ a2) (a1.size : Int) t266 t267 t268 _ ?side1 A11.out).mono ?_); (case side1 => exact Tabs.below HTab_.out (by repeat (first | (with_reducible first | exact HB.out | apply below_alloc | apply pw_below_drewN | apply below_drew1) | exact HB.out))); rintro e w18 ⟨rfl, hb⟩; refine ⟨_, rfl, ?_⟩; have n0_ := Aside0.mk (Kd.R_below (by (with_reducible repeat (first | apply Kd.R_alloc | apply Kd.R_drewN | apply Kd.R_drew)); exact HO264.out) hb); have n1_ := Aside0.mk (below_step (by repeat (first | (with_reducible first | exact HB.out | apply below_alloc | apply pw_below_drewN | apply below_drew1) | exact HB.out)) hb); clear HO264; clear HB; have HO264 := n0_; have HB := n1_; clear n0_ n1_; (try clear hb); (try clear hb2); (try clear hk); (try clear hi)))
        (try simp only [Act.put, List.setIfInBounds_toArray, List.set_cons_zero, List.set_cons_succ])
        go_cut [58] (fun v58 wc => ∃ (kq : Nat) (x58_11 : Bool), v58 = .bool x58_11 ∧ Aside0 (hallmarklaw02_UtfLiteral.j0 kq t261 x58_11 = some r) ∧ Aside0 (kq ≤ k) ∧ Aside0 (Below w.heap.size w wc))
        case first =>
          have H := HC12.out
          clear HC12
          by_cases c19 : t266.toList = t265.toList
          · rw [if_pos c19] at H
            have c19b0 : (t266.toList == t265.toList) = true := beq_iff_eq.mpr c19
            have c19b1 : (t266.toList != t265.toList) = false := bne_eq_false_iff_eq.mpr c19
            clear c19
            (first | rw [c19b0] | (simp only [i64_w, i32_w]; rw [c19b0]) | skip)
            by_cases c20 : t267 = ((a1.size : Int) + (t261.size : Int))
            · rw [if_pos c20] at H
              have c20b0 : (t267 == ((a1.size : Int) + (t261.size : Int))) = true := beq_iff_eq.mpr c20
              have c20b1 : (t267 != ((a1.size : Int) + (t261.size : Int))) = false := bne_eq_false_iff_eq.mpr c20
              clear c20
              by_cases c21 : t268 = 0
              · rw [if_pos c21] at H
                have c21b0 : (t268 == 0) = true := beq_iff_eq.mpr c21
                have c21b1 : (t268 != 0) = false := bne_eq_false_iff_eq.mpr c21
                clear c21
                replace H := Option.bind_eq_some_iff.mp H
                obtain ⟨t269, A220, H⟩ := H
                replace H : (if t269 = true then ((utf_Quote.f t266).bind fun t270 => (hallmarklaw02_UtfLiteral.j0 k t261 (t270.toList != t261.toList))) else (hallmarklaw02_UtfLiteral.j0 k t261 true)) = some r := H
                have A22 := Aside0.mk A220
                clear A220
                by_cases c23 : t269 = true
                · subst c23
                  have H1 : ((utf_Quote.f t266).bind fun t270 => (hallmarklaw02_UtfLiteral.j0 k t261 (t270.toList != t261.toList))) = some r := by rw [if_pos rfl] at H; exact H
                  clear H
                  have H := H1
                  clear H1
                  replace H := Option.bind_eq_some_iff.mp H
                  obtain ⟨t270, A240, H⟩ := H
                  replace H : (hallmarklaw02_UtfLiteral.j0 k t261 (t270.toList != t261.toList)) = some r := H
                  have A24 := Aside0.mk A240
                  clear A240
                  have H' := Aside0.mk H
                  clear H
                  go_wp2_with (first | (go_at_call 23; (with_reducible refine (utf_Valid.calls t261 true _ ?side1 A22.out).mono ?_); (case side1 => exact Tabs.below HTab_.out (by repeat (first | (with_reducible first | exact HB.out | apply below_alloc | apply pw_below_drewN | apply below_drew1) | exact HB.out))); rintro e w25 ⟨rfl, hb⟩; have n0_ := Aside0.mk (Kd.R_below (by (with_reducible repeat (first | apply Kd.R_alloc | apply Kd.R_drewN | apply Kd.R_drew)); exact HO264.out) hb); have n1_ := Aside0.mk (below_step (by repeat (first | (with_reducible first | exact HB.out | apply below_alloc | apply pw_below_drewN | apply below_drew1) | exact HB.out)) hb); clear HO264; clear HB; have HO264 := n0_; have HB := n1_; clear n0_ n1_; (try clear hb); (try clear hb2); (try clear hk); (try clear hi)) | (go_at_call 22; (with_reducible refine (utf_Quote.calls t266 t270 _ A24.out).mono ?_); rintro e w26 ⟨rfl, hb⟩; have n0_ := Aside0.mk (Kd.R_below (by (with_reducible repeat (first | apply Kd.R_alloc | apply Kd.R_drewN | apply Kd.R_drew)); exact HO264.out) hb); have n1_ := Aside0.mk (below_step (by repeat (first | (with_reducible first | exact HB.out | apply below_alloc | apply pw_below_drewN | apply below_drew1) | exact HB.out)) hb); clear HO264; clear HB; have HO264 := n0_; have HB := n1_; clear n0_ n1_; (try clear hb); (try clear hb2); (try clear hk); (try clear hi)))
                  go_meet
                  case rel => exact ⟨_, ((t270.toList != t261.toList)), (by first | rfl | (simp; done) | (simp [*]; done) | (rw [Value.bool.injEq, Bool.eq_iff_iff]; simp; done)), H', ⟨by first | omega | exact Nat.le_refl _⟩, ⟨by repeat (first | (with_reducible first | exact HB.out | apply below_alloc | apply pw_below_drewN | apply below_drew1) | exact HB.out)⟩⟩
                · replace c23 := Bool.eq_false_iff.mpr c23
                  subst c23
                  have H1 : (hallmarklaw02_UtfLiteral.j0 k t261 true) = some r := by rw [if_neg (show ¬ (false = true) by decide)] at H; exact H
                  clear H
                  have H := H1
                  clear H1
                  have H' := Aside0.mk H
                  clear H
                  go_wp2_with (first | (go_at_call 23; (with_reducible refine (utf_Valid.calls t261 false _ ?side1 A22.out).mono ?_); (case side1 => exact Tabs.below HTab_.out (by repeat (first | (with_reducible first | exact HB.out | apply below_alloc | apply pw_below_drewN | apply below_drew1) | exact HB.out))); rintro e w27 ⟨rfl, hb⟩; have n0_ := Aside0.mk (Kd.R_below (by (with_reducible repeat (first | apply Kd.R_alloc | apply Kd.R_drewN | apply Kd.R_drew)); exact HO264.out) hb); have n1_ := Aside0.mk (below_step (by repeat (first | (with_reducible first | exact HB.out | apply below_alloc | apply pw_below_drewN | apply below_drew1) | exact HB.out)) hb); clear HO264; clear HB; have HO264 := n0_; have HB := n1_; clear n0_ n1_; (try clear hb); (try clear hb2); (try clear hk); (try clear hi)))
                  go_meet
                  case rel => exact ⟨_, (true), (by first | rfl | (simp; done) | (simp [*]; done) | (rw [Value.bool.injEq, Bool.eq_iff_iff]; simp; done)), H', ⟨by first | omega | exact Nat.le_refl _⟩, ⟨by repeat (first | (with_reducible first | exact HB.out | apply below_alloc | apply pw_below_drewN | apply below_drew1) | exact HB.out)⟩⟩
              · rw [if_neg c21] at H
                have c21b0 : (t268 == 0) = false := beq_eq_false_iff_ne.mpr c21
                have c21b1 : (t268 != 0) = true := bne_iff_ne.mpr c21
                have H' := Aside0.mk H
                clear H
                go_wp2
                go_meet
                case rel => exact ⟨_, (true), (by first | rfl | (simp; done) | (simp [*]; done) | (rw [Value.bool.injEq, Bool.eq_iff_iff]; simp; done)), H', ⟨by first | omega | exact Nat.le_refl _⟩, ⟨by repeat (first | (with_reducible first | exact HB.out | apply below_alloc | apply pw_below_drewN | apply below_drew1) | exact HB.out)⟩⟩
            · rw [if_neg c20] at H
              have c20b0 : (t267 == ((a1.size : Int) + (t261.size : Int))) = false := beq_eq_false_iff_ne.mpr c20
              have c20b1 : (t267 != ((a1.size : Int) + (t261.size : Int))) = true := bne_iff_ne.mpr c20
              have H' := Aside0.mk H
              clear H
              go_wp2
              go_meet
              case rel => exact ⟨_, (true), (by first | rfl | (simp; done) | (simp [*]; done) | (rw [Value.bool.injEq, Bool.eq_iff_iff]; simp; done)), H', ⟨by first | omega | exact Nat.le_refl _⟩, ⟨by repeat (first | (with_reducible first | exact HB.out | apply below_alloc | apply pw_below_drewN | apply below_drew1) | exact HB.out)⟩⟩
          · rw [if_neg c19] at H
            have c19b0 : (t266.toList == t265.toList) = false := beq_eq_false_iff_ne.mpr c19
            have c19b1 : (t266.toList != t265.toList) = true := bne_iff_ne.mpr c19
            (first | rw [c19b0] | (simp only [i64_w, i32_w]; rw [c19b0]) | skip)
            have H' := Aside0.mk H
            clear H
            go_wp2
            go_meet
            case rel => exact ⟨_, (true), (by first | rfl | (simp; done) | (simp [*]; done) | (rw [Value.bool.injEq, Bool.eq_iff_iff]; simp; done)), H', ⟨by first | omega | exact Nat.le_refl _⟩, ⟨by repeat (first | (with_reducible first | exact HB.out | apply below_alloc | apply pw_below_drewN | apply below_drew1) | exact HB.out)⟩⟩
        case rest =>
          clear HC12
          try clear c1
          try clear c2
          try clear p2
          try clear c3
          try clear c5
          try clear c9
          try clear c9b0
          try clear c9b1
          try clear c9b2
          try clear c10
          try clear c10b0
          try clear c10b1
          try clear c10b2
          try clear c17
          try clear c19
          try clear c19b0
          try clear c19b1
          try clear c20
          try clear c20b0
          try clear c20b1
          try clear c21
          try clear c21b0
          try clear c21b1
          try clear c22
          try clear c23
          obtain ⟨kq, x58_11, rfl, HA, HJ11, HB⟩ := hcut
          cases kq with
          | zero => exact absurd HA.out (by simp [hallmarklaw02_UtfLiteral.j0])
          | succ kj11 =>
            have H := HA.out
            clear HA
            simp only [hallmarklaw02_UtfLiteral.j0] at H
            by_cases c28 : x58_11 = true
            · subst c28
              have H1 : (some false) = some r := by rw [if_pos rfl] at H; exact H
              clear H
              have H := H1
              clear H1
              obtain rfl := Option.some.inj H
              go_wp2
              go_ret
              exact ⟨by first | rfl | (simp [errW_none, errW_some] <;> rfl) | (simp [*, errW_none, errW_some] <;> rfl), by repeat (first | (with_reducible first | exact HB.out | apply below_alloc | apply pw_below_drewN | apply below_drew1) | exact HB.out)⟩
            · replace c28 := Bool.eq_false_iff.mpr c28
              subst c28
              have H1 : (hallmarklaw02_UtfLiteral.l0 kj11 t261 0) = some r := by rw [if_neg (show ¬ (false = true) by decide)] at H; exact H
              clear H
              have H := H1
              clear H1
              have H' := Aside0.mk H
              clear H
              go_wp2
              go_loopg [12] kj11 (fun kq v12 w' => ∃ (x12_2 : Int), v12 = .int .i64 x12_2 ∧ Aside0 (hallmarklaw02_UtfLiteral.l0 kq t261 x12_2 = some r) ∧ Aside0 (kq ≤ kj11) ∧ Aside0 (Below w.heap.size w w'))
              case atStart => exact ⟨(0), (by first | rfl | (simp; done) | (simp [*]; done) | (rw [Value.bool.injEq, Bool.eq_iff_iff]; simp; done)), H', ⟨Nat.le_refl _⟩, ⟨by repeat (first | (with_reducible first | exact HB.out | apply below_alloc | apply pw_below_drewN | apply below_drew1) | exact HB.out)⟩⟩
              case round =>
                clear H'
                try clear c1
                try clear c2
                try clear p2
                try clear c3
                try clear c5
                try clear c9
                try clear c9b0
                try clear c9b1
                try clear c9b2
                try clear c10
                try clear c10b0
                try clear c10b1
                try clear c10b2
                try clear c17
                try clear c19
                try clear c19b0
                try clear c19b1
                try clear c20
                try clear c20b0
                try clear c20b1
                try clear c21
                try clear c21b0
                try clear c21b1
                try clear c22
                try clear c23
                try clear c28
                try clear p2
                obtain ⟨x12_2, rfl, HA, HK2, HB⟩ := hrel
                cases gk with
                | zero => exact absurd HA.out (by simp [hallmarklaw02_UtfLiteral.l0])
                | succ k2 =>
                  have H := HA.out
                  clear HA
                  simp only [hallmarklaw02_UtfLiteral.l0] at H
                  by_cases c29 : x12_2 < (t261.size : Int)
                  · rw [if_pos c29] at H
                    have c29b0 : decide (x12_2 < (t261.size : Int)) = true := decide_eq_true c29
                    clear c29
                    by_cases c30 : 0 ≤ x12_2
                    · rw [if_pos c30] at H
                      have c30b0 : decide (0 ≤ x12_2) = true := decide_eq_true c30
                      clear c30
                      by_cases c32 : (bt t261 x12_2) < 32
                      · rw [if_pos c32] at H
                        have c32b0 : decide ((bt t261 x12_2) < 32) = true := decide_eq_true c32
                        clear c32
                        obtain rfl := Option.some.inj H
                        have p31 : 0 ≤ (x12_2 : Int) := of_decide_eq_true (by first | (with_reducible assumption) | assumption)
                        have q31 : x12_2 < (t261.size : Int) := of_decide_eq_true (by first | (with_reducible assumption) | assumption)
                        have hx31 := bt_at t261 x12_2
                        replace p31 := eq_true p31
                        replace q31 := eq_true q31
                        go_wp2
                        go_ret
                        exact ⟨by first | rfl | (simp [errW_none, errW_some] <;> rfl) | (simp [*, errW_none, errW_some] <;> rfl), by repeat (first | (with_reducible first | exact HB.out | apply below_alloc | apply pw_below_drewN | apply below_drew1) | exact HB.out)⟩
                      · rw [if_neg c32] at H
                        have c32b0 : decide ((bt t261 x12_2) < 32) = false := decide_eq_false c32
                        clear c32
                        by_cases c34 : (bt t261 x12_2) = 127
                        · rw [if_pos c34] at H
                          have c34b0 : ((bt t261 x12_2) == 127) = true := beq_iff_eq.mpr c34
                          have c34b1 : ((bt t261 x12_2) != 127) = false := bne_eq_false_iff_eq.mpr c34
                          clear c34
                          obtain rfl := Option.some.inj H
                          have p31 : 0 ≤ (x12_2 : Int) := of_decide_eq_true (by first | (with_reducible assumption) | assumption)
                          have q31 : x12_2 < (t261.size : Int) := of_decide_eq_true (by first | (with_reducible assumption) | assumption)
                          have hx31 := bt_at t261 x12_2
                          replace p31 := eq_true p31
                          replace q31 := eq_true q31
                          have p33 : 0 ≤ (x12_2 : Int) := of_decide_eq_true (by first | (with_reducible assumption) | assumption)
                          have q33 : x12_2 < (t261.size : Int) := of_decide_eq_true (by first | (with_reducible assumption) | assumption)
                          have hx33 := bt_at t261 x12_2
                          replace p33 := eq_true p33
                          replace q33 := eq_true q33
                          go_wp2
                          go_ret
                          exact ⟨by first | rfl | (simp [errW_none, errW_some] <;> rfl) | (simp [*, errW_none, errW_some] <;> rfl), by repeat (first | (with_reducible first | exact HB.out | apply below_alloc | apply pw_below_drewN | apply below_drew1) | exact HB.out)⟩
                        · rw [if_neg c34] at H
                          have c34b0 : ((bt t261 x12_2) == 127) = false := beq_eq_false_iff_ne.mpr c34
                          have c34b1 : ((bt t261 x12_2) != 127) = true := bne_iff_ne.mpr c34
                          have H' := Aside0.mk H
                          clear H
                          have p31 : 0 ≤ (x12_2 : Int) := of_decide_eq_true (by first | (with_reducible assumption) | assumption)
                          have q31 : x12_2 < (t261.size : Int) := of_decide_eq_true (by first | (with_reducible assumption) | assumption)
                          have hx31 := bt_at t261 x12_2
                          replace p31 := eq_true p31
                          replace q31 := eq_true q31
                          have p33 : 0 ≤ (x12_2 : Int) := of_decide_eq_true (by first | (with_reducible assumption) | assumption)
                          have q33 : x12_2 < (t261.size : Int) := of_decide_eq_true (by first | (with_reducible assumption) | assumption)
                          have hx33 := bt_at t261 x12_2
                          replace p33 := eq_true p33
                          replace q33 := eq_true q33
                          go_wp2
                          go_roundg k2
                          case measure => have := HJ11.out; have := HK2.out; omega
                          case rel => exact ⟨(wrap64 (x12_2 + 1)), (by first | rfl | (simp; done) | (simp [*]; done) | (rw [Value.bool.injEq, Bool.eq_iff_iff]; simp; done)), H', ⟨by have := HJ11.out; have := HK2.out; omega⟩, ⟨by repeat (first | (with_reducible first | exact HB.out | apply below_alloc | apply pw_below_drewN | apply below_drew1) | exact HB.out)⟩⟩
                    · rw [if_neg c30] at H
                      exact absurd H (by simp)
                  · rw [if_neg c29] at H
                    have c29b0 : decide (x12_2 < (t261.size : Int)) = false := decide_eq_false c29
                    clear c29
                    obtain rfl := Option.some.inj H
                    go_wp2
                    go_ret
                    exact ⟨by first | rfl | (simp [errW_none, errW_some] <;> rfl) | (simp [*, errW_none, errW_some] <;> rfl), by repeat (first | (with_reducible first | exact HB.out | apply below_alloc | apply pw_below_drewN | apply below_drew1) | exact HB.out)⟩
      · rw [if_neg c10] at H
        exact absurd H (by simp)
    · rw [if_neg c9] at H
      exact absurd H (by simp)
  · replace c5 := Bool.eq_false_iff.mpr c5
    subst c5
    have H1 : (some false) = some r := by rw [if_neg (show ¬ (false = true) by decide)] at H; exact H
    clear H
    have H := H1
    clear H1
    obtain rfl := Option.some.inj H
    go_enter Tryd.func10, Tryd.ntmps10
    go_wp2_with (first | ((with_reducible refine gate_callee (f := 17) rfl ?_); refine goesL_ (some 13) rfl rfl Tryd.func17 (by kernel_rfl) rfl #[] rfl (by (try simp only [List.map_toArray, List.map_cons, List.map_nil]); first | done | rfl | (simp only [List.length_drop, List.length_take]; rfl)) ?_; (with_reducible refine (hallmarklaw02_fixed.calls k  false _ ?side1 A4.out).mono ?_); (case side1 => exact Tabs.below HTab_.out (by repeat (first | (with_reducible first | exact HB.out | apply below_alloc | apply pw_below_drewN | apply below_drew1) | exact HB.out))); rintro e w35 ⟨rfl, hb⟩; refine ⟨_, rfl, ?_⟩; have n0_ := Aside0.mk (below_step (by repeat (first | (with_reducible first | exact HB.out | apply below_alloc | apply pw_below_drewN | apply below_drew1) | exact HB.out)) hb); clear HB; have HB := n0_; clear n0_; (try clear hb); (try clear hb2); (try clear hk); (try clear hi)))
    go_ret
    exact ⟨by first | rfl | (simp [errW_none, errW_some] <;> rfl) | (simp [*, errW_none, errW_some] <;> rfl), by repeat (first | (with_reducible first | exact HB.out | apply below_alloc | apply pw_below_drewN | apply below_drew1) | exact HB.out)⟩

end Go.Proofs.YtfkianfddjccgaaDoor.U
